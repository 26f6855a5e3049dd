/- Lemmas for the proofs of this seat: no statement of the seat is claimed here. -/
import Derived.Test.YtmhkmcoobpfkcaaKg
import Derived.Test.YtmhkmcoobpfkcaaKc
import Derived.Test.YtmhkmcoobpfkcaaShelf
set_option linter.all false

namespace Go.Proofs.Ytmhkmcoobpfkcaa
open Go Pw
set_option maxRecDepth 20000
set_option maxHeartbeats 4000000
set_option synthInstance.maxHeartbeats 400000
set_option synthInstance.maxSize 4000
set_option maxHeartbeats 4000000
instance : Und Try.prog 113 (Go.TypeDesc.unsafePointer) := ⟨Try.underlying113⟩
instance : Sz Try.prog 113 0 := ⟨by kernel_rfl⟩
instance : Pl Try.prog 113 := ⟨by kernel_rfl⟩
instance : Zr Try.prog 113 (.pointer none) := ⟨by kernel_rfl⟩
instance : By Try.prog 113 8 := ⟨by kernel_rfl⟩

instance : IsEsc Try.prog 71 := ⟨fun args w => by rw [run_callFunc_extern Try.func71 (by kernel_rfl) (by kernel_rfl) (by kernel_rfl) (e := Extern.AbiNoEscape.same) (by kernel_rfl)]; simp only [Sem.run_bind, Sem.run_pure]⟩
instance : Lies Try.prog 92 2 := ⟨by
  obtain ⟨j, hj, h2⟩ := Option.map_eq_some_iff.1 (show (Try.prog.info? 92).map (·.size) = some 2 by kernel_rfl)
  exact ⟨j, hj, by rw [h2]; decide⟩, by kernel_rfl⟩
theorem _root_.Pw.LMem.app {A : Assn} {L R : List Assn} (hm : LMem A L) : LMem A (L ++ R) := by
  induction hm with
  | head => exact .head _ _
  | tail _ ih => exact .tail ih
theorem _root_.Pw.Sat.slptr {P : Program} {f : FuncId} {args : List Value} {L : List Assn} {B : Value → List Assn → Prop} {e : TypeId} {sz n k : Nat} {a : Option Addr} {xs : List Value} (hm : LMem (Pw.sl e sz (.slice a n k) n xs) L) (h0 : 0 < n) (h : ∀ g, a = some ⟨g, 0, none⟩ → n ≤ k → Sat P f args L B) : Sat P f args L B := fun c R w hw => by
  obtain ⟨f1, h1, _⟩ := SLh.mem (hm.app (R := R)) hw.2.2.2
  rcases h1 with ⟨h1, h2, _⟩ | ⟨b, k', rest, h1, _⟩
  · omega
  · simp only [Value.slice.injEq] at h1
    exact h b h1.1 (by omega) c R w hw
/-- A builder and what it holds. -/
def bldL (b : Nat) (l : List UInt8) (z : Value × Option Addr × Nat) : List Assn := [row 92 b [z.1, .slice z.2.1 l.length z.2.2], Pw.sl 5 (0 + 1) (.slice z.2.1 l.length z.2.2) l.length (l.map byteV)]
def bldA (b : Nat) (l : List UInt8) : Assn := exA (fun z : Value × Option Addr × Nat => z.1 = .pointer none ∨ z.1 = .pointer (some ⟨b, 0, none⟩)) (bldL b l)
theorem Imp.bld {b : Nat} {l : List UInt8} {q : Value} {a : Option Addr} {k : Nat} {L R : List Assn} (h : Imp L (row 92 b [q, .slice a l.length k] :: Pw.sl 5 (0 + 1) (.slice a l.length k) l.length (l.map byteV) :: R)) (hq : q = .pointer none ∨ q = .pointer (some ⟨b, 0, none⟩)) : Imp L (bldA b l :: R) := Imp.shutA (p := fun z : Value × Option Addr × Nat => z.1 = .pointer none ∨ z.1 = .pointer (some ⟨b, 0, none⟩)) (Ls := bldL b l) (q, a, k) hq h
theorem chk_new (b : Nat) (v : Value) :
    Sat Try.prog 60 [.pointer (some ⟨b, 0, none⟩)] [row 92 b [.pointer none, v]] (fun u L' => u = .tuple #[] ∧ L' = [row 92 b [.pointer (some ⟨b, 0, none⟩), v]]) := by
  all_goals
    refine Sat.enter Try.func60 rfl Try.ntmps60 rfl (fun c R => ?_)
    try simp only [List.cons_append, List.nil_append]
    repeat' (first
      | (exact Fini.of ⟨rfl, rfl⟩ (by repeat first | exact Imp.refl _ | (apply Imp.pull; focus ((repeat first | exact Del.head _ _ | apply Del.tail); done)) | apply Imp.drop))
      | refine And.intro (fun hc => ?_) (fun hc => ?_)
      | refine And.intro ?_ ?_
      | intro b
      | refine stp ?_
      | refine TQ.finC ?_
      | refine TQ.finC2 ?_
      | refine TQ.finC3 ?_
      | refine ⟨fun hc => ?_, fun hc => ?_⟩
      | refine Ei.f ?_
      | refine ⟨?_, ?_⟩
      | intro b
      | exact absurd rfl hc
      | exact absurd hc (by decide)
      | exact absurd rfl hc
      | exact absurd hc (by decide)
      | omega
      | (dsimp only; omega)
      | exact Nat.succ_pos _
      | rfl
      | fail)
theorem chk_old (b : Nat) (v : Value) :
    Sat Try.prog 60 [.pointer (some ⟨b, 0, none⟩)] [row 92 b [.pointer (some ⟨b, 0, none⟩), v]] (fun u L' => u = .tuple #[] ∧ L' = [row 92 b [.pointer (some ⟨b, 0, none⟩), v]]) := by
  all_goals
    refine Sat.enter Try.func60 rfl Try.ntmps60 rfl (fun c R => ?_)
    try simp only [List.cons_append, List.nil_append]
    repeat' (first
      | (exact Fini.of ⟨rfl, rfl⟩ (by repeat first | exact Imp.refl _ | (apply Imp.pull; focus ((repeat first | exact Del.head _ _ | apply Del.tail); done)) | apply Imp.drop))
      | refine And.intro (fun hc => ?_) (fun hc => ?_)
      | refine And.intro ?_ ?_
      | intro b
      | refine stp ?_
      | refine TQ.finC ?_
      | refine TQ.finC2 ?_
      | refine TQ.finC3 ?_
      | refine ⟨fun hc => ?_, fun hc => ?_⟩
      | refine Ei.f ?_
      | refine ⟨?_, ?_⟩
      | intro b
      | exact absurd rfl hc
      | exact absurd hc (by decide)
      | exact absurd rfl hc
      | exact absurd hc (by decide)
      | omega
      | (dsimp only; omega)
      | exact Nat.succ_pos _
      | rfl
      | fail)
theorem chk (b : Nat) (q v : Value) (hq : q = .pointer none ∨ q = .pointer (some ⟨b, 0, none⟩)) : Sat Try.prog 60 [.pointer (some ⟨b, 0, none⟩)] [row 92 b [q, v]] (fun u L' => u = .tuple #[] ∧ L' = [row 92 b [.pointer (some ⟨b, 0, none⟩), v]]) := by
  rcases hq with rfl | rfl
  · exact chk_new b v
  · exact chk_old b v
class Row92 (L : List Assn) (b : Nat) (q v : outParam Value) (R : outParam (List Assn)) : Prop where h : Del (row 92 b [q, v]) L R
instance (priority := 1100) {L : List Assn} {b : Nat} {q v : Value} : Row92 (row 92 b [q, v] :: L) b q v L := ⟨.head _ _⟩
instance {A : Assn} {L R : List Assn} {b : Nat} {q v : Value} [h : Row92 L b q v R] : Row92 (A :: L) b q v (A :: R) := ⟨.tail h.h⟩
instance {L R : List Assn} {b : Nat} {q v : Value} [hd : Row92 L b q v R] : FnR Try.prog 60 [.pointer (some ⟨b, 0, none⟩)] L (fun kk => Vc (q = .pointer none ∨ q = .pointer (some ⟨b, 0, none⟩)) (kk (.tuple #[]) (row 92 b [.pointer (some ⟨b, 0, none⟩), v] :: R))) :=
  ⟨fun kk h => ⟨_, R, _, chk b q v h.l, .cons hd.h (.nil _), fun v L' hv => by rw [hv.1, hv.2]; exact h.r⟩⟩
theorem blen (b : Nat) (l : List UInt8) :
    Sat Try.prog 51 [.pointer (some ⟨b, 0, none⟩)] [bldA b l] (fun u L' => u = .int .i64 (l.length : Nat) ∧ L' = [bldA b l]) := by
  refine Sat.openA1 ?_
  rintro ⟨q, a, k⟩ hq
  dsimp only [bldL] at *
  all_goals
    refine Sat.enter Try.func51 rfl Try.ntmps51 rfl (fun c R => ?_)
    try simp only [List.cons_append, List.nil_append]
    repeat' (first
      | (exact Fini.of ⟨rfl, rfl⟩ (Imp.bld (by repeat first | exact Imp.refl _ | (apply Imp.pull; focus ((repeat first | exact Del.head _ _ | apply Del.tail); done)) | apply Imp.drop) (by first | exact .inl rfl | exact .inr rfl | assumption)))
      | refine And.intro (fun hc => ?_) (fun hc => ?_)
      | refine And.intro ?_ ?_
      | intro b
      | refine stp ?_
      | refine TQ.finC ?_
      | refine TQ.finC2 ?_
      | refine TQ.finC3 ?_
      | refine ⟨fun hc => ?_, fun hc => ?_⟩
      | refine Ei.f ?_
      | refine ⟨?_, ?_⟩
      | intro b
      | exact absurd rfl hc
      | exact absurd hc (by decide)
      | exact absurd rfl hc
      | exact absurd hc (by decide)
      | omega
      | (dsimp only; omega)
      | exact Nat.succ_pos _
      | rfl
      | fail)
theorem bwrite (b : Nat) (l s : List UInt8) (hl : l.length + s.length < 1000000000) :
    Sat Try.prog 52 [.pointer (some ⟨b, 0, none⟩), str s] [bldA b l] (fun u L' => u = asResult [.int .i64 (s.length : Nat), .nilIface] ∧ L' = [bldA b (l ++ s)]) := by
  refine Sat.openA1 ?_
  rintro ⟨q, a, k⟩ hq
  dsimp only [bldL] at *
  all_goals
    refine Sat.enter Try.func52 rfl Try.ntmps52 rfl (fun c R => ?_)
    try simp only [List.cons_append, List.nil_append]
    repeat' (first
      | (exact hq)
      | (rw [show l.length + s.length = (l ++ s).length from List.length_append.symm] at *; exact Fini.of ⟨rfl, rfl⟩ (Imp.bld (by repeat first | exact Imp.refl _ | (apply Imp.pull; focus ((repeat first | exact Del.head _ _ | apply Del.tail); done)) | apply Imp.drop) (by first | exact .inl rfl | exact .inr rfl | assumption)))
      | (exact Fini.of ⟨rfl, rfl⟩ (Imp.bld (by repeat first | exact Imp.refl _ | (apply Imp.pull; focus ((repeat first | exact Del.head _ _ | apply Del.tail); done)) | apply Imp.drop) (by first | exact .inl rfl | exact .inr rfl | assumption)))
      | refine And.intro (fun hc => ?_) (fun hc => ?_)
      | refine And.intro ?_ ?_
      | intro b
      | refine stp ?_
      | refine TQ.finC ?_
      | refine TQ.finC2 ?_
      | refine TQ.finC3 ?_
      | refine ⟨fun hc => ?_, fun hc => ?_⟩
      | refine Ei.f ?_
      | refine ⟨?_, ?_⟩
      | intro b
      | exact absurd rfl hc
      | exact absurd hc (by decide)
      | exact absurd rfl hc
      | exact absurd hc (by decide)
      | omega
      | (dsimp only; omega)
      | exact Nat.succ_pos _
      | rfl
      | fail)
theorem bstring (b : Nat) (l : List UInt8) (h0 : l ≠ []) (hl : l.length < 1000000000) :
    Sat Try.prog 53 [.pointer (some ⟨b, 0, none⟩)] [bldA b l] (fun u L' => u = str l ∧ L' = []) := by
  refine Sat.openA1 ?_
  rintro ⟨q, a, k⟩ hq
  dsimp only [bldL] at *
  refine Sat.slptr (.tail (.head _ _)) (List.length_pos_iff.2 h0) ?_
  rintro g rfl hk
  have hl0 := List.length_pos_iff.2 h0
  all_goals
    refine Sat.enter Try.func53 rfl Try.ntmps53 rfl (fun c R => ?_)
    try simp only [List.cons_append, List.nil_append]
    repeat' (first
      | (exact Fini.of ⟨rfl, rfl⟩ (by repeat first | exact Imp.refl _ | (apply Imp.pull; focus ((repeat first | exact Del.head _ _ | apply Del.tail); done)) | apply Imp.drop))
      | refine T.pl 1 [4, 10] (.p 0 (.p 1 (.p 5 (.p 6 (.d 2 (.d 3 (.p 7 (.b2 4 (.d 8 (.p 9 (.n 10 (.p 11 .fin)))) 8 (.p 9 (.n 4 (.n 10 (.p 11 .fin)))))))))))) ?_
      | refine And.intro (fun hc => ?_) (fun hc => ?_)
      | refine And.intro ?_ ?_
      | intro b
      | refine stp ?_
      | refine TQ.finC ?_
      | refine TQ.finC2 ?_
      | refine TQ.finC3 ?_
      | refine ⟨fun hc => ?_, fun hc => ?_⟩
      | refine Ei.f ?_
      | refine ⟨?_, ?_⟩
      | intro b
      | exact absurd rfl hc
      | exact absurd hc (by decide)
      | exact absurd rfl hc
      | exact absurd hc (by decide)
      | omega
      | (dsimp only; omega)
      | exact Nat.succ_pos _
      | rfl
      | fail)

end Go.Proofs.Ytmhkmcoobpfkcaa


namespace Go.Proofs.Ytmhkmcoobpfkcaa
open Go Pw
set_option maxRecDepth 20000
set_option maxHeartbeats 4000000
set_option synthInstance.maxHeartbeats 400000
set_option synthInstance.maxSize 4000
set_option maxHeartbeats 4000000

instance : FLen pktV (8 + 1) := ⟨fun _ => rfl⟩
def dupE (p q : Pkt) : Bool := decide (q.off = p.off) && decide (q.data = p.data) && (q.more == p.more)
def idxE (t : Pkt → Bool) (l : List Pkt) : Int := match l.findIdx? t with | some i => (i : Int) | none => -1
theorem gt_memP {l : List Pkt} {i : Nat} (h : i < l.length) : gt l i ∈ l := by
  have := gt_get h
  rw [List.getElem?_eq_getElem h] at this
  rw [← Option.some.inj this]; exact List.getElem_mem h
theorem idx_hit {t : Pkt → Bool} {l : List Pkt} {i : Nat} (hi : i < l.length) (h1 : ∀ j, j < i → t (gt l j) = false) (h2 : t (gt l i) = true) : idxE t l = (i : Int) := by
  have : l.findIdx? t = some i := by
    rw [List.findIdx?_eq_some_iff_getElem]
    have e : ∀ j (h : j < l.length), l[j] = gt l j := fun j h => by
      have := gt_get h
      rw [List.getElem?_eq_getElem h] at this
      exact Option.some.inj this
    refine ⟨hi, by rw [e i hi]; exact h2, fun j hj => ?_⟩
    rw [e j (by omega), h1 j hj]; simp
  unfold idxE; rw [this]
theorem idx_no {t : Pkt → Bool} {l : List Pkt} (h1 : ∀ j, j < l.length → t (gt l j) = false) : idxE t l = -1 := by
  have : l.findIdx? t = none := by
    rw [List.findIdx?_eq_none_iff]
    intro x hx
    obtain ⟨j, hj, rfl⟩ := List.getElem_of_mem hx
    have := gt_get hj
    rw [List.getElem?_eq_getElem hj] at this
    rw [Option.some.inj this]; exact h1 j hj
  unfold idxE; rw [this]
theorem idx_any (t : Pkt → Bool) (l : List Pkt) : decide (0 ≤ idxE t l) = l.any t := by
  unfold idxE
  cases h : l.findIdx? t with
  | none =>
    rw [List.findIdx?_eq_none_iff] at h
    have : l.any t = false := by rw [List.any_eq_false]; intro x hx; rw [h x hx]; simp
    rw [this]; rfl
  | some i =>
    have h2 := (List.findIdx?_eq_some_iff_getElem.1 h)
    obtain ⟨h3, h4, _⟩ := h2
    have : l.any t = true := List.any_eq_true.2 ⟨_, List.getElem_mem h3, h4⟩
    rw [this]; simp
class PkAt (L : List Assn) (b : Nat) (p : outParam Pkt) (R : outParam (List Assn)) : Prop where h : Del (row 38 b (pktV p)) L R
instance (priority := 1100) {L : List Assn} {b : Nat} {p : Pkt} : PkAt (row 38 b (pktV p) :: L) b p L := ⟨.head _ _⟩
instance {A : Assn} {L R : List Assn} {b : Nat} {p : Pkt} [h : PkAt L b p R] : PkAt (A :: L) b p (A :: R) := ⟨.tail h.h⟩
class PksAt (L : List Assn) (a : Option Addr) (n k : outParam Nat) (l : outParam (List Pkt)) (R : outParam (List Assn)) : Prop where h : Del (Pw.sl 38 (8 + 1) (.slice a n k) n (l.flatMap pktV)) L R
instance (priority := 1100) {L : List Assn} {a : Option Addr} {n k : Nat} {l : List Pkt} : PksAt (Pw.sl 38 (8 + 1) (.slice a n k) n (l.flatMap pktV) :: L) a n k l L := ⟨.head _ _⟩
instance {A : Assn} {L R : List Assn} {a : Option Addr} {n k : Nat} {l : List Pkt} [h : PksAt L a n k l R] : PksAt (A :: L) a n k l (A :: R) := ⟨.tail h.h⟩
theorem dup44 (p q : Pkt) (b : Nat) :
    Sat Try.prog 44 [.agg (pktV q).toArray, .pointer (some ⟨b, 0, none⟩)] [row 38 b (pktV p)] (fun u L' => u = .bool (dupE p q) ∧ L' = [row 38 b (pktV p)]) := by
  all_goals
    refine Sat.enter Try.func44 rfl Try.ntmps44 rfl (fun c R => ?_)
    try simp only [List.cons_append, List.nil_append]
    repeat' (first
      | (exact Fini.of ⟨eqB (by unfold dupE; simp_all), rfl⟩ (by repeat first | exact Imp.refl _ | (apply Imp.pull; focus ((repeat first | exact Del.head _ _ | apply Del.tail); done)) | apply Imp.drop))
      | refine And.intro (fun hc => ?_) (fun hc => ?_)
      | refine And.intro ?_ ?_
      | intro b
      | refine stp ?_
      | refine TQ.finC ?_
      | refine TQ.finC2 ?_
      | refine TQ.finC3 ?_
      | refine ⟨fun hc => ?_, fun hc => ?_⟩
      | refine Ei.f ?_
      | refine ⟨?_, ?_⟩
      | intro b
      | exact absurd rfl hc
      | exact absurd hc (by decide)
      | exact absurd rfl hc
      | exact absurd hc (by decide)
      | omega
      | (dsimp only; omega)
      | fail)
instance {L R : List Assn} {p q : Pkt} {b : Nat} {us : List Value} [hu : InvL pktV us q] [hd : PkAt L b p R] : FnR Try.prog 44 [.agg us.toArray, .pointer (some ⟨b, 0, none⟩)] L (fun kk => Vc (True) (kk (.bool (dupE p q)) (row 38 b (pktV p) :: R))) :=
  ⟨fun kk h => ⟨_, R, _, by rw [← hu.h]; exact dup44 p q b, .cons hd.h (.nil _), fun v L' hv => by rw [hv.1, hv.2]; exact h.r⟩⟩
theorem idx_dup44 (p : Pkt) (l : List Pkt) (b : Nat) (a : Option Addr) (k : Nat) (hp : p.ok) (hall : ∀ q ∈ l, q.ok) (hn : l.length < 1000000) :
    Sat Try.prog 55 [.slice a l.length k, .func (.func 44) #[] #[.pointer (some ⟨b, 0, none⟩)]] [row 38 b (pktV p), Pw.sl 38 (8 + 1) (.slice a l.length k) l.length (l.flatMap pktV)] (fun u L' => u = .int .i64 (idxE (dupE p) l) ∧ L' = [row 38 b (pktV p), Pw.sl 38 (8 + 1) (.slice a l.length k) l.length (l.flatMap pktV)]) := by
  all_goals
    refine Sat.enter Try.func55 rfl Try.ntmps55 rfl (fun c R => ?_)
    try simp only [List.cons_append, List.nil_append]
    repeat' (first
      | (refine T.atB 0 ?_; refine T.lpa 0 [(0, _), (1, _), (7, _)] (0 : Nat) (fun i => [(8, .int .i64 (i : Nat))]) (fun _ => [row 38 b (pktV p), Pw.sl 38 (8 + 1) (.slice a l.length k) l.length (l.flatMap pktV)]) (fun i => i ≤ l.length ∧ ∀ j, j < i → dupE p (gt l j) = false) (fun i => l.length - i) ⟨Nat.zero_le _, fun j hj => absurd hj (Nat.not_lt_zero j)⟩ ?_; rintro i g ⟨hi, hj⟩; have hq : i < l.length → (gt l i).ok := (fun h => hall _ (gt_memP h)); simp only [List.cons_append, List.nil_append, appR])
      | (refine TQ.atL ?_; refine TQ.rda (i + 1 : Nat) ⟨by omega, fun j h => (by rcases Nat.lt_or_eq_of_le (Nat.le_of_lt_succ h) with h | h; exact hj j h; rw [h]; assumption)⟩ ?_)
      | exact ⟨hp, hq (by omega)⟩
      | (exact Fini.of ⟨by rw [idx_hit (by omega) hj (by assumption)]; rfl, rfl⟩ (by repeat first | exact Imp.refl _ | (apply Imp.pull; focus ((repeat first | exact Del.head _ _ | apply Del.tail); done)) | apply Imp.drop))
      | (obtain rfl : i = l.length := (by omega); exact Fini.of ⟨by rw [idx_no hj]; rfl, rfl⟩ (by repeat first | exact Imp.refl _ | (apply Imp.pull; focus ((repeat first | exact Del.head _ _ | apply Del.tail); done)) | apply Imp.drop))
      | refine And.intro (fun hc => ?_) (fun hc => ?_)
      | refine And.intro ?_ ?_
      | intro b
      | refine stp ?_
      | refine TQ.finC ?_
      | refine TQ.finC2 ?_
      | refine TQ.finC3 ?_
      | refine ⟨fun hc => ?_, fun hc => ?_⟩
      | refine Ei.f ?_
      | refine ⟨?_, ?_⟩
      | intro b
      | exact absurd rfl hc
      | exact absurd hc (by decide)
      | exact absurd rfl hc
      | exact absurd hc (by decide)
      | omega
      | (dsimp only; omega)
      | fail)
instance {L R R2 : List Assn} {p : Pkt} {l : List Pkt} {b n k : Nat} {a : Option Addr} [hd : PkAt L b p R] [he : PksAt R a n k l R2] : FnR Try.prog 55 [.slice a n k, .func (.func 44) #[] #[.pointer (some ⟨b, 0, none⟩)]] L (fun kk => Vc (p.ok ∧ (∀ q ∈ l, q.ok) ∧ n = l.length ∧ n < 1000000) (kk (.int .i64 (idxE (dupE p) l)) (row 38 b (pktV p) :: Pw.sl 38 (8 + 1) (.slice a n k) n (l.flatMap pktV) :: R2))) :=
  ⟨fun kk h => by
    obtain ⟨⟨h1, h2, h3, h4⟩, h5⟩ := h
    subst h3
    exact ⟨_, R2, _, idx_dup44 p l b a k h1 h2 h4, .cons hd.h (.cons he.h (.nil _)), fun v L' hv => by rw [hv.1, hv.2]; exact h5⟩⟩
theorem con_dup44 (p : Pkt) (l : List Pkt) (b : Nat) (a : Option Addr) (k : Nat) (hp : p.ok) (hall : ∀ q ∈ l, q.ok) (hn : l.length < 1000000) :
    Sat Try.prog 43 [.slice a l.length k, .func (.func 44) #[] #[.pointer (some ⟨b, 0, none⟩)]] [row 38 b (pktV p), Pw.sl 38 (8 + 1) (.slice a l.length k) l.length (l.flatMap pktV)] (fun u L' => u = .bool (l.any (dupE p)) ∧ L' = [row 38 b (pktV p), Pw.sl 38 (8 + 1) (.slice a l.length k) l.length (l.flatMap pktV)]) := by
  all_goals
    refine Sat.enter Try.func43 rfl Try.ntmps43 rfl (fun c R => ?_)
    try simp only [List.cons_append, List.nil_append]
    repeat' (first
      | exact ⟨hp, hall, rfl, hn⟩
      | (exact Fini.of ⟨eqB (idx_any _ _), rfl⟩ (by repeat first | exact Imp.refl _ | (apply Imp.pull; focus ((repeat first | exact Del.head _ _ | apply Del.tail); done)) | apply Imp.drop))
      | refine And.intro (fun hc => ?_) (fun hc => ?_)
      | refine And.intro ?_ ?_
      | intro b
      | refine stp ?_
      | refine TQ.finC ?_
      | refine TQ.finC2 ?_
      | refine TQ.finC3 ?_
      | refine ⟨fun hc => ?_, fun hc => ?_⟩
      | refine Ei.f ?_
      | refine ⟨?_, ?_⟩
      | intro b
      | exact absurd rfl hc
      | exact absurd hc (by decide)
      | exact absurd rfl hc
      | exact absurd hc (by decide)
      | omega
      | (dsimp only; omega)
      | fail)
instance {L R R2 : List Assn} {p : Pkt} {l : List Pkt} {b n k : Nat} {a : Option Addr} [hd : PkAt L b p R] [he : PksAt R a n k l R2] : FnR Try.prog 43 [.slice a n k, .func (.func 44) #[] #[.pointer (some ⟨b, 0, none⟩)]] L (fun kk => Vc (p.ok ∧ (∀ q ∈ l, q.ok) ∧ n = l.length ∧ n < 1000000) (kk (.bool (l.any (dupE p))) (row 38 b (pktV p) :: Pw.sl 38 (8 + 1) (.slice a n k) n (l.flatMap pktV) :: R2))) :=
  ⟨fun kk h => by
    obtain ⟨⟨h1, h2, h3, h4⟩, h5⟩ := h
    subst h3
    exact ⟨_, R2, _, con_dup44 p l b a k h1 h2 h4, .cons hd.h (.cons he.h (.nil _)), fun v L' hv => by rw [hv.1, hv.2]; exact h5⟩⟩
theorem par45 (p q : Pkt) (b : Nat) (hp : p.ok) (hq : q.ok) :
    Sat Try.prog 45 [.agg (pktV q).toArray, .pointer (some ⟨b, 0, none⟩)] [row 38 b (pktV p)] (fun u L' => u = .bool (parE p q) ∧ L' = [row 38 b (pktV p)]) := by
  all_goals
    refine Sat.enter Try.func45 rfl Try.ntmps45 rfl (fun c R => ?_)
    try simp only [List.cons_append, List.nil_append]
    repeat' (first
      | (exact Fini.of ⟨rfl, rfl⟩ (by repeat first | exact Imp.refl _ | (apply Imp.pull; focus ((repeat first | exact Del.head _ _ | apply Del.tail); done)) | apply Imp.drop))
      | refine And.intro (fun hc => ?_) (fun hc => ?_)
      | refine And.intro ?_ ?_
      | intro b
      | refine stp ?_
      | refine TQ.finC ?_
      | refine TQ.finC2 ?_
      | refine TQ.finC3 ?_
      | refine ⟨fun hc => ?_, fun hc => ?_⟩
      | refine Ei.f ?_
      | refine ⟨?_, ?_⟩
      | intro b
      | exact absurd rfl hc
      | exact absurd hc (by decide)
      | exact absurd rfl hc
      | exact absurd hc (by decide)
      | omega
      | (dsimp only; omega)
      | fail)
instance {L R : List Assn} {p q : Pkt} {b : Nat} {us : List Value} [hu : InvL pktV us q] [hd : PkAt L b p R] : FnR Try.prog 45 [.agg us.toArray, .pointer (some ⟨b, 0, none⟩)] L (fun kk => Vc (p.ok ∧ q.ok) (kk (.bool (parE p q)) (row 38 b (pktV p) :: R))) :=
  ⟨fun kk h => ⟨_, R, _, by rw [← hu.h]; exact par45 p q b h.l.1 h.l.2, .cons hd.h (.nil _), fun v L' hv => by rw [hv.1, hv.2]; exact h.r⟩⟩
theorem idx_par45 (p : Pkt) (l : List Pkt) (b : Nat) (a : Option Addr) (k : Nat) (hp : p.ok) (hall : ∀ q ∈ l, q.ok) (hn : l.length < 1000000) :
    Sat Try.prog 55 [.slice a l.length k, .func (.func 45) #[] #[.pointer (some ⟨b, 0, none⟩)]] [row 38 b (pktV p), Pw.sl 38 (8 + 1) (.slice a l.length k) l.length (l.flatMap pktV)] (fun u L' => u = .int .i64 (idxE (parE p) l) ∧ L' = [row 38 b (pktV p), Pw.sl 38 (8 + 1) (.slice a l.length k) l.length (l.flatMap pktV)]) := by
  all_goals
    refine Sat.enter Try.func55 rfl Try.ntmps55 rfl (fun c R => ?_)
    try simp only [List.cons_append, List.nil_append]
    repeat' (first
      | (refine T.atB 0 ?_; refine T.lpa 0 [(0, _), (1, _), (7, _)] (0 : Nat) (fun i => [(8, .int .i64 (i : Nat))]) (fun _ => [row 38 b (pktV p), Pw.sl 38 (8 + 1) (.slice a l.length k) l.length (l.flatMap pktV)]) (fun i => i ≤ l.length ∧ ∀ j, j < i → parE p (gt l j) = false) (fun i => l.length - i) ⟨Nat.zero_le _, fun j hj => absurd hj (Nat.not_lt_zero j)⟩ ?_; rintro i g ⟨hi, hj⟩; have hq : i < l.length → (gt l i).ok := (fun h => hall _ (gt_memP h)); simp only [List.cons_append, List.nil_append, appR])
      | (refine TQ.atL ?_; refine TQ.rda (i + 1 : Nat) ⟨by omega, fun j h => (by rcases Nat.lt_or_eq_of_le (Nat.le_of_lt_succ h) with h | h; exact hj j h; rw [h]; assumption)⟩ ?_)
      | exact ⟨hp, hq (by omega)⟩
      | (exact Fini.of ⟨by rw [idx_hit (by omega) hj (by assumption)]; rfl, rfl⟩ (by repeat first | exact Imp.refl _ | (apply Imp.pull; focus ((repeat first | exact Del.head _ _ | apply Del.tail); done)) | apply Imp.drop))
      | (obtain rfl : i = l.length := (by omega); exact Fini.of ⟨by rw [idx_no hj]; rfl, rfl⟩ (by repeat first | exact Imp.refl _ | (apply Imp.pull; focus ((repeat first | exact Del.head _ _ | apply Del.tail); done)) | apply Imp.drop))
      | refine And.intro (fun hc => ?_) (fun hc => ?_)
      | refine And.intro ?_ ?_
      | intro b
      | refine stp ?_
      | refine TQ.finC ?_
      | refine TQ.finC2 ?_
      | refine TQ.finC3 ?_
      | refine ⟨fun hc => ?_, fun hc => ?_⟩
      | refine Ei.f ?_
      | refine ⟨?_, ?_⟩
      | intro b
      | exact absurd rfl hc
      | exact absurd hc (by decide)
      | exact absurd rfl hc
      | exact absurd hc (by decide)
      | omega
      | (dsimp only; omega)
      | fail)
instance {L R R2 : List Assn} {p : Pkt} {l : List Pkt} {b n k : Nat} {a : Option Addr} [hd : PkAt L b p R] [he : PksAt R a n k l R2] : FnR Try.prog 55 [.slice a n k, .func (.func 45) #[] #[.pointer (some ⟨b, 0, none⟩)]] L (fun kk => Vc (p.ok ∧ (∀ q ∈ l, q.ok) ∧ n = l.length ∧ n < 1000000) (kk (.int .i64 (idxE (parE p) l)) (row 38 b (pktV p) :: Pw.sl 38 (8 + 1) (.slice a n k) n (l.flatMap pktV) :: R2))) :=
  ⟨fun kk h => by
    obtain ⟨⟨h1, h2, h3, h4⟩, h5⟩ := h
    subst h3
    exact ⟨_, R2, _, idx_par45 p l b a k h1 h2 h4, .cons hd.h (.cons he.h (.nil _)), fun v L' hv => by rw [hv.1, hv.2]; exact h5⟩⟩
theorem con_par45 (p : Pkt) (l : List Pkt) (b : Nat) (a : Option Addr) (k : Nat) (hp : p.ok) (hall : ∀ q ∈ l, q.ok) (hn : l.length < 1000000) :
    Sat Try.prog 43 [.slice a l.length k, .func (.func 45) #[] #[.pointer (some ⟨b, 0, none⟩)]] [row 38 b (pktV p), Pw.sl 38 (8 + 1) (.slice a l.length k) l.length (l.flatMap pktV)] (fun u L' => u = .bool (l.any (parE p)) ∧ L' = [row 38 b (pktV p), Pw.sl 38 (8 + 1) (.slice a l.length k) l.length (l.flatMap pktV)]) := by
  all_goals
    refine Sat.enter Try.func43 rfl Try.ntmps43 rfl (fun c R => ?_)
    try simp only [List.cons_append, List.nil_append]
    repeat' (first
      | exact ⟨hp, hall, rfl, hn⟩
      | (exact Fini.of ⟨eqB (idx_any _ _), rfl⟩ (by repeat first | exact Imp.refl _ | (apply Imp.pull; focus ((repeat first | exact Del.head _ _ | apply Del.tail); done)) | apply Imp.drop))
      | refine And.intro (fun hc => ?_) (fun hc => ?_)
      | refine And.intro ?_ ?_
      | intro b
      | refine stp ?_
      | refine TQ.finC ?_
      | refine TQ.finC2 ?_
      | refine TQ.finC3 ?_
      | refine ⟨fun hc => ?_, fun hc => ?_⟩
      | refine Ei.f ?_
      | refine ⟨?_, ?_⟩
      | intro b
      | exact absurd rfl hc
      | exact absurd hc (by decide)
      | exact absurd rfl hc
      | exact absurd hc (by decide)
      | omega
      | (dsimp only; omega)
      | fail)
instance {L R R2 : List Assn} {p : Pkt} {l : List Pkt} {b n k : Nat} {a : Option Addr} [hd : PkAt L b p R] [he : PksAt R a n k l R2] : FnR Try.prog 43 [.slice a n k, .func (.func 45) #[] #[.pointer (some ⟨b, 0, none⟩)]] L (fun kk => Vc (p.ok ∧ (∀ q ∈ l, q.ok) ∧ n = l.length ∧ n < 1000000) (kk (.bool (l.any (parE p))) (row 38 b (pktV p) :: Pw.sl 38 (8 + 1) (.slice a n k) n (l.flatMap pktV) :: R2))) :=
  ⟨fun kk h => by
    obtain ⟨⟨h1, h2, h3, h4⟩, h5⟩ := h
    subst h3
    exact ⟨_, R2, _, con_par45 p l b a k h1 h2 h4, .cons hd.h (.cons he.h (.nil _)), fun v L' hv => by rw [hv.1, hv.2]; exact h5⟩⟩

end Go.Proofs.Ytmhkmcoobpfkcaa


namespace Go.Proofs.Ytmhkmcoobpfkcaa
open Go Pw
set_option maxRecDepth 20000
set_option maxHeartbeats 4000000
set_option synthInstance.maxHeartbeats 400000
set_option synthInstance.maxSize 4000
set_option maxHeartbeats 4000000

open Go.RowKit Go.Sort Go.Lib in
/-- A sort of the shelf's, held so. -/
theorem sortK_sat {P : Program} {α : Type} [Inhabited α] {F : α → List Value} {K : Nat} (hK : ∀ x, (F x).length = K) (h0 : 0 < K) {lt : α → α → Bool} {f : FuncId} {fn : Value} {e : TypeId}
    (hC : ∀ (d : Array α) (w : World) (blk cap : Nat), HoldsK F K w blk 0 d → blk < w.heap.size → d.size < 4611686018427387904 → Calls P f #[.slice (some ⟨blk, 0, none⟩) d.size cap, fn] w fun e w' => e = .returned (.tuple #[]) ∧ ∃ d' n os, PermIn 0 d.size d d' ∧ SortedIn lt 0 d.size d' ∧ w' = sortWorldK F K w blk 0 n d' os)
    (l : List α) (a : Option Addr) (cap : Nat) (hl : 0 < l.length) (hs : l.length < 4611686018427387904) :
    Sat P f [.slice a l.length cap, fn] [Pw.sl e K (.slice a l.length cap) l.length (l.flatMap F)] (fun u L' => u = .tuple #[] ∧ ∃ l' : List α, l'.Perm l ∧ l'.Pairwise (fun x y => lt y x = false) ∧ L' = [Pw.sl e K (.slice a l.length cap) l.length (l'.flatMap F)]) :=
  Sat.of_calls fun c R w hw => by
    obtain ⟨e1, e2, e3, f1, f2, hd, k1, k2, ha, hR⟩ := hw
    rcases ha with ⟨_, h2, _⟩ | ⟨b, k', rest, hv, hlen, hrest, fr, hfr, hb⟩
    · omega
    · simp only [Value.slice.injEq] at hv
      obtain ⟨rfl, -, rfl⟩ := hv
      have hbw : w.heap[b]? = some (.cells (l.flatMap F ++ rest).toArray e fr) := k1 _ _ hb
      have hcell : ∀ j, j < l.length * K → (l.flatMap F)[j]? = some ((F (gt l (j / K)))[j % K]!) := fun j hj => by
        have hq : j / K < l.length := Nat.div_lt_of_lt_mul (by rwa [Nat.mul_comm])
        have hm : j % K < K := Nat.mod_lt _ h0
        have h5 := flat_elem hK (gt_get hq) (j % K) ((F (gt l (j / K)))[j % K]!) (by
          rw [List.getElem?_eq_getElem (by rw [hK]; exact hm), getElem!_pos _ _ (by rw [hK]; exact hm)])
        rw [Nat.div_add_mod' j K] at h5
        exact h5
      have hH : HoldsK F K w b 0 l.toArray := by
        intro j hj
        have hj' : j < l.length * K := by simpa using hj
        have hq : j / K < l.length := Nat.div_lt_of_lt_mul (by rwa [Nat.mul_comm])
        refine ⟨?_, ?_⟩
        · rw [get_flatK _ _ _ _ (by simpa using hj')]
          have h6 := hcell j hj'
          have e4 : l.toArray[j / K]! = gt l (j / K) := by
            have := gt_get hq
            rw [List.getElem?_eq_getElem hq] at this
            rw [getElem!_pos _ _ (by simpa using hq)]
            simpa using Option.some.inj this
          rw [e4]
          have h7 : (l.flatMap F ++ rest)[j]? = some ((F (gt l (j / K)))[j % K]!) := by
            rw [List.getElem?_append_left (by rw [hlen]; exact hj')]; exact h6
          simp [World.cell?, hbw, h7]
        · exact frozen_of hbw (by simpa using hfr j (by rw [List.length_append, hlen]; omega))
      have hbs : b < w.heap.size := (Array.getElem?_eq_some_iff.1 hbw).1
      refine (hC l.toArray w b (l.length + k') hH hbs (by simpa using hs)).mono ?_
      rintro e' w' ⟨rfl, d', n, os, hp, hso, rfl⟩
      have hsz : d'.size = l.length := by simpa using hp.1
      refine ⟨_, _, rfl, ⟨rfl, d'.toList, ?_, ?_, rfl⟩, ?_⟩
      · have h8 := hp.2.2
        have e5 : d'.extract 0 l.toArray.size = d' := by rw [show l.toArray.size = d'.size by simp [hsz]]; simp
        rw [e5] at h8
        simpa using h8
      · rw [List.pairwise_iff_getElem]
        intro i j hi hj hij
        have hi' : i < d'.size := by simpa using hi
        have hj' : j < d'.size := by simpa using hj
        have h9 := hso i j (Nat.zero_le _) hij (by simp; omega)
        rw [getElem!_pos d' i hi', getElem!_pos d' j hj'] at h9
        simpa using h9
      · -- the row anew
        have hcells : putCells id 0 (flatK F K d') (l.flatMap F ++ rest).toArray = (d'.toList.flatMap F ++ rest).toArray := by
          apply Array.ext
          · simp [putCells, hlen, hsz, List.length_flatMap]
            rw [show (d'.toList.map fun x => (F x).length) = List.replicate d'.size K by
              rw [List.eq_replicate_iff]; refine ⟨by simp, ?_⟩; intro x hx; obtain ⟨y, _, rfl⟩ := List.mem_map.1 hx; exact hK y]
            rw [List.sum_replicate_nat, hsz]
          · intro t h1 h2
            have hl1 : (d'.toList.flatMap F).length = l.length * K := by
              rw [List.length_flatMap, show (d'.toList.map fun x => (F x).length) = List.replicate d'.size K by
                rw [List.eq_replicate_iff]; refine ⟨by simp, ?_⟩; intro x hx; obtain ⟨y, _, rfl⟩ := List.mem_map.1 hx; exact hK y]
              rw [List.sum_replicate_nat, hsz]
            simp only [putCells, Array.getElem_mapIdx, size_flatK, hsz, Nat.zero_le, true_and, Nat.zero_add, Nat.sub_zero, id]
            by_cases ht : t < l.length * K
            · rw [if_pos ht, get_flatK _ _ _ _ (by rw [hsz]; exact ht)]
              have hq : t / K < d'.toList.length := by simp [hsz]; exact Nat.div_lt_of_lt_mul (by rwa [Nat.mul_comm])
              have hm : t % K < K := Nat.mod_lt _ h0
              have h5 := flat_elem hK (List.getElem?_eq_getElem hq) (t % K) ((F d'.toList[t / K])[t % K]!) (by
                rw [List.getElem?_eq_getElem (by rw [hK]; exact hm), getElem!_pos _ _ (by rw [hK]; exact hm)])
              rw [Nat.div_add_mod' t K] at h5
              have h6 : (d'.toList.flatMap F ++ rest)[t]? = some ((F d'.toList[t / K])[t % K]!) := by rw [List.getElem?_append_left (by rw [hl1]; exact ht)]; exact h5
              have h2' : t < (d'.toList.flatMap F ++ rest).length := by simpa using h2
              rw [List.getElem?_eq_getElem h2'] at h6
              rw [show (d'.toList.flatMap F ++ rest).toArray[t] = (d'.toList.flatMap F ++ rest)[t] from by simp, Option.some.inj h6]
              rw [getElem!_pos d' _ (by simpa using hq)]
              simp
            · rw [if_neg ht]
              have h2' : t < (d'.toList.flatMap F ++ rest).length := by simpa using h2
              have h1' : t < (l.flatMap F ++ rest).length := by rw [List.length_append] at h2' ⊢; rw [hlen]; rw [hl1] at h2'; exact h2'
              rw [show (d'.toList.flatMap F ++ rest).toArray[t] = (d'.toList.flatMap F ++ rest)[t] from by simp, show (l.flatMap F ++ rest).toArray[t] = (l.flatMap F ++ rest)[t] from by simp]
              rw [List.getElem_append_right (by rw [hlen]; omega), List.getElem_append_right (by rw [hl1]; omega)]
              congr 1
              rw [hlen, hl1]
        have hw1 : SL c (pt b (.cells (d'.toList.flatMap F ++ rest).toArray e fr) :: R) (putRowK F K (Go.Sort.ahead w n) b 0 d') := by
          have h10 : SL c (pt b (.cells (l.flatMap F ++ rest).toArray e fr) :: R) w := ⟨e1, e2, e3, f1, f2, hd, k1, k2, hb, hR⟩
          refine h10.setObj rfl rfl rfl ?_ ?_
          · show ((Go.Sort.ahead w n).heap.modify b _)[b]? = _
            rw [Array.getElem?_modify, if_pos rfl]
            show (w.heap[b]?).map _ = _
            rw [hbw, ← hcells]; rfl
          · intro k hk
            show ((Go.Sort.ahead w n).heap.modify b _)[k]? = _
            rw [Array.getElem?_modify, if_neg (fun e => hk e.symm)]; rfl
        have hw2 : SL c (pt b (.cells (d'.toList.flatMap F ++ rest).toArray e fr) :: R) (sortWorldK F K w b 0 n d' os) := by
          refine ⟨hw1.1, hw1.2.1, hw1.2.2.1, hw1.2.2.2.mono fun k o hk => ?_⟩
          have hlt : k < (putRowK F K (Go.Sort.ahead w n) b 0 d').heap.size := (Array.getElem?_eq_some_iff.1 hk).1
          show ((putRowK F K (Go.Sort.ahead w n) b 0 d').heap ++ os)[k]? = some o
          rw [Array.getElem?_append_left hlt]; exact hk
        obtain ⟨g1, g2, g3, q1, q2, hd', j1, j2, hb', hR'⟩ := hw2
        refine ⟨g1, g2, g3, q1, q2, hd', j1, j2, .inr ⟨b, k', rest, rfl, ?_, hrest, fr, ?_, hb'⟩, hR'⟩
        · rw [List.length_flatMap, show (d'.toList.map fun x => (F x).length) = List.replicate d'.size K by
            rw [List.eq_replicate_iff]; refine ⟨by simp, ?_⟩; intro x hx; obtain ⟨y, _, rfl⟩ := List.mem_map.1 hx; exact hK y]
          rw [List.sum_replicate_nat, hsz]
        · intro o ho
          refine hfr o ?_
          rw [List.length_append] at ho ⊢
          rw [hlen]
          have hl1 : (d'.toList.flatMap F).length = l.length * K := by
            rw [List.length_flatMap, show (d'.toList.map fun x => (F x).length) = List.replicate d'.size K by
              rw [List.eq_replicate_iff]; refine ⟨by simp, ?_⟩; intro x hx; obtain ⟨y, _, rfl⟩ := List.mem_map.1 hx; exact hK y]
            rw [List.sum_replicate_nat, hsz]
          rw [hl1] at ho; exact ho

theorem isnan (W : World) (a : Int) : Calls Try.prog 59 #[.int .u16 a] W fun e w' => e = .returned (.bool false) ∧ w' = W := by
  go_enter Try.func59, Try.ntmps59
  go_wp2
  go_ret
  exact ⟨rfl, rfl⟩
theorem cmp49 (W : World) (a b : Int) : Calls Try.prog 49 #[.int .u16 a, .int .u16 b] W fun e w' => e = .returned (.int .i64 (if a < b then -1 else if b < a then 1 else 0)) ∧ w' = W := by
  have hcon := isnan
  go_enter Try.func49, Try.ntmps49
  go_wp2_with (go_at_call 59; refine (hcon _ _).mono ?_; rintro e w' ⟨rfl, rfl⟩)
  all_goals (go_ret; refine ⟨?_, rfl⟩; (repeat' split) <;> first | rfl | (exfalso; omega))
set_option maxHeartbeats 4000000 in
open Go.RowKit Go.Sort Go.Lib in
theorem clos48 (x y : Pkt) (W : World) : Calls Try.prog 48 #[.agg (pktV x).toArray, .agg (pktV y).toArray] W fun e w' => e = .returned (.int .i64 (cmE x y)) ∧ ∃ q os', w' = grow (W.drewN q) os' := by
  have hcon := fun W' => cmp49 W' (x.off : Int) (y.off : Int)
  have e : (if (x.off : Int) < (y.off : Int) then (-1 : Int) else if (y.off : Int) < (x.off : Int) then 1 else 0) = cmE x y := by unfold cmE; (repeat' split) <;> first | rfl | (exfalso; omega)
  rw [e] at hcon
  clear e
  generalize cmE x y = r at hcon ⊢
  unfold pktV
  generalize str x.data = sx
  generalize str y.data = sy
  go_enter Try.func48, Try.ntmps48
  go_wp2_with (go_at_call 49; refine (hcon _).mono ?_; rintro e w' ⟨rfl, rfl⟩)
  go_ret
  exact ⟨rfl, 0, _, by rw [alloc_eq_grow, alloc_eq_grow, grow_grow]; rfl⟩
open Go.Sort in
theorem lt_cm (x y : Pkt) : ltOf cmE x y = decide (x.off < y.off) := by
  unfold ltOf cmE
  by_cases h1 : x.off < y.off
  · simp [h1]
  · by_cases h2 : y.off < x.off <;> simp [h1, h2]
open Go.Sort in
theorem swo_cm : SWO (ltOf cmE) where
  irrefl x := by rw [lt_cm]; simp
  trans x y z h1 h2 := by rw [lt_cm] at *; simp at *; omega
  ntrans x y z h1 h2 := by rw [lt_cm] at *; simp at *; omega
theorem ones_pkt (x : Pkt) : ∀ v ∈ pktV x, v.oneCell' = true := by
  intro v hv
  simp only [pktV, List.mem_cons, List.not_mem_nil, or_false] at hv
  rcases hv with rfl | rfl | rfl | rfl | rfl | rfl | rfl | rfl | rfl <;> rfl
theorem sort47 (l : List Pkt) (a : Option Addr) (k : Nat) (hl : 0 < l.length) (hs : l.length < 4611686018427387904) :
    Sat Try.prog 47 [.slice a l.length k, .func (.func 48) #[] #[]] [Pw.sl 38 (8 + 1) (.slice a l.length k) l.length (l.flatMap pktV)] (fun u L' => u = .tuple #[] ∧ ∃ l' : List Pkt, l'.Perm l ∧ l'.Pairwise (fun x y => x.off ≤ y.off) ∧ L' = [Pw.sl 38 (8 + 1) (.slice a l.length k) l.length (l'.flatMap pktV)]) := by
  refine (sortK_sat (P := Try.prog) (F := pktV) (K := 8 + 1) (fun _ => rfl) (by decide) (lt := ltOf cmE) (f := 47) (fn := .func (.func 48) #[] #[]) (e := 38) (fun d w blk cap hH hb hsz => ?_) l a k hl hs).post ?_
  · exact Try.slices_SortFunc 9 Try.isAgg38 Try.sizeOf38 pktV (fun _ => rfl) ones_pkt cmE swo_cm 48 #[] blk 0 cap d w (enters_of Try.func48 (by kernel_rfl) rfl) (fun _ _ _ _ x y => clos48 x y _) hH hb hsz
  · rintro u L' ⟨rfl, l', h1, h2, rfl⟩
    refine ⟨_, Imp.refl _, rfl, l', h1, h2.imp (fun {x y} h => ?_), rfl⟩
    rw [lt_cm] at h
    simp at h
    exact h
instance {L R : List Assn} {l : List Pkt} {n k : Nat} {a : Option Addr} [he : PksAt L a n k l R] : FnR Try.prog 47 [.slice a n k, .func (.func 48) #[] #[]] L (fun kk => Vc (n = l.length ∧ 0 < n ∧ n < 1000000) (∀ l' : List Pkt, l'.Perm l → l'.Pairwise (fun x y => x.off ≤ y.off) → kk (.tuple #[]) (Pw.sl 38 (8 + 1) (.slice a n k) n (l'.flatMap pktV) :: R))) :=
  ⟨fun kk h => by
    obtain ⟨⟨h1, h2, h3⟩, h4⟩ := h
    subst h1
    exact ⟨_, R, _, sort47 l a k h2 (by omega), .cons he.h (.nil _), fun v L' hv => by obtain ⟨e1, l', h5, h6, e2⟩ := hv; rw [e1, e2]; exact h4 l' h5 h6⟩⟩

end Go.Proofs.Ytmhkmcoobpfkcaa

