/- Lemmas for the proofs of this seat: no statement of the seat is claimed here. -/
import Derived.Test.YtimaecgdahmmdaaLa
import Derived.Test.YtimaecgdahmmdaaLb
import Derived.Test.YtimaecgdahmmdaaKc
set_option linter.all false

namespace Go.Proofs.Ytimaecgdahmmdaa
open Go Pw
set_option maxRecDepth 20000
set_option maxHeartbeats 4000000
set_option synthInstance.maxHeartbeats 400000
set_option synthInstance.maxSize 4000
set_option maxHeartbeats 8000000

structure Stp where
  (do_ : Int) (s : List UInt8) (n x at_ : Nat)
instance : Inhabited Stp := ⟨⟨0, [], 0, 0, 0⟩⟩
abbrev stpV (t : Stp) : List Value := [.int .i64 t.do_, str t.s, .int .u8 t.n, .int .u32 t.x, .int .u32 t.at_]
instance : FLen stpV 5 := ⟨fun _ => rfl⟩
instance : FLen stpV (4 + 1) := ⟨fun _ => rfl⟩
structure Stp.ok (t : Stp) : Prop where
  s : t.s.length ≤ 140737488351232
  n : t.n < 256
  x : t.x < 4294967296
  at_ : t.at_ < 4294967296
theorem stp0 : (default : Stp).ok := ⟨by decide, by decide, by decide, by decide⟩
def hvE (l : List Stp) : Nat → Nat
  | 0 => 0
  | i + 1 => hvE l i + (gt l i).s.length
theorem hvE_le {l : List Stp} (hok : ∀ j, (gt l j).ok) : ∀ i, hvE l i ≤ i * 140737488351232
  | 0 => Nat.zero_le _
  | i + 1 => by
    have h1 := hvE_le hok i
    have h2 := (hok i).s
    have e : hvE l (i + 1) = hvE l i + (gt l i).s.length := rfl
    omega
theorem hvE_ge {l : List Stp} : ∀ i j, j < i → (gt l j).s.length ≤ hvE l i
  | 0, j, h => absurd h (Nat.not_lt_zero _)
  | i + 1, j, h => by
    have e : hvE l (i + 1) = hvE l i + (gt l i).s.length := rfl
    by_cases h1 : j = i
    · subst h1; omega
    · have := hvE_ge (l := l) i j (by omega); omega
theorem heavy_fin {l : List Stp} {i : Nat} (h1 : i ≤ l.length) (h2 : i = l.length ∨ 300 ≤ i) (b : Bool) (hb : b = false → l.length ≤ 100 ∧ hvE l i ≤ 16384) : b = false → l.length ≤ 100 ∧ ∀ j, j < l.length → (gt l j).s.length ≤ 16384 := fun h => by
  obtain ⟨h3, h4⟩ := hb h
  have hi : i = l.length := by omega
  subst hi
  exact ⟨h3, fun j hj => Nat.le_trans (hvE_ge _ j hj) h4⟩
/-! The card of VnetKeeps -/
theorem layK : Lay 0 4 128 2 208 64 592 := ⟨by decide, by decide, by decide, by decide, by decide +kernel, by decide +kernel, by decide, by decide, by decide +kernel, by decide +kernel, by decide, by decide, by decide, by decide⟩
theorem nszK : nszN 4 2 64 = 592 := by decide +kernel
theorem txt_keep {bs : List UInt8} {lt : List Bool} {A n N nx P bz : Nat} {br : Bool} {X0 X : XC} {tk0 tk : List Bool} {ls0 ls : Nat} {wh0 wh : List UInt8} (i : TxI A n N X0 tk0 nx ls0) (h : TxT bs lt A P bz br X0 tk0 ls0 wh0 X tk ls wh) : TxI A n N X tk nx ls ∧ X.length ≤ X0.length ∧ wh.length = wh0.length := by
  induction h with
  | refl => exact ⟨i, Nat.le_refl _, rfl⟩
  | step _ hp hq ih =>
    obtain ⟨i1, i2, i3⟩ := ih
    have q := tx_poll i1 hp
    have := q.xl
    exact ⟨q.tx, by omega, hq.len.trans i3⟩
theorem tx_len {A n N nx ls : Nat} {X : XC} {tk : List Bool} (i : TxI A n N X tk nx ls) : X.length ≤ n := by
  have h1 := ds_len (X := X) fun y hy => (i.ok.hd y hy).1
  have h2 := i.ok.cnt
  have h3 := i.tl
  omega
structure SendW (A n N : Nat) (lt : List Bool) (bs : List UInt8) (X : XC) (wh : List UInt8) (lo e : Nat) (bs' : List UInt8) (X' : XC) (tk' : List Bool) (nx' ls' : Nat) (wh' : List UInt8) (lo' : Nat) : Prop where
  tx : TxI A n N X' tk' nx' ls'
  bl : bs'.length = N
  kp : KeepP lt bs bs'
  wl : wh'.length = wh.length
  xl : X'.length ≤ X.length + 1
  l1 : lo' ≤ lo + 1
  ok : e = 0 → lo' = lo
theorem send_weak {A n N P bz nx ls lo e nx' ls' lo' : Nat} {lt : List Bool} {f bs bs' : List UInt8} {X X' : XC} {tk tk' : List Bool} {br br' : Bool} {wh wh' : List UInt8} (i : TxI A n N X tk nx ls) (hb : bs.length = N) (hf : f.length ≤ 1048576) (hP : P + wh.length * bz ≤ 1048576) (h : SendP A P bz lt f bs X tk nx ls br wh lo e bs' X' tk' nx' ls' br' wh' lo') : SendW A n N lt bs X wh lo e bs' X' tk' nx' ls' wh' lo' := by
  cases h with
  | short => exact ⟨i, hb, .rfl, rfl, by omega, by omega, fun _ => rfl⟩
  | long => exact ⟨i, hb, .rfl, rfl, by omega, by omega, fun _ => rfl⟩
  | poll ht hp he =>
    obtain ⟨rfl, rfl, rfl, rfl⟩ := poll_same hp
    obtain ⟨i1, i2, i3⟩ := txt_keep i ht
    exact ⟨i1, hb, .rfl, i3, by omega, by omega, fun _ => rfl⟩
  | full ht hp hg he =>
    obtain ⟨rfl, rfl, rfl, rfl⟩ := poll_same hp
    obtain ⟨i1, i2, i3⟩ := txt_keep i ht
    exact ⟨i1, hb, .rfl, (get_le hg).2.trans i3, by omega, by omega, fun h => absurd h he⟩
  | bad ht hp hg ha he hq =>
    obtain ⟨rfl, rfl, rfl, rfl⟩ := poll_same hp
    obtain ⟨i1, i2, i3⟩ := txt_keep i ht
    have ha9 := get_ad hg (by rw [i3]; exact hP)
    obtain ⟨q1, q2, q3, q4, q5, _⟩ := tx_add ha (by rw [writeE_len]; exact hb) (by omega) (by omega) i1
    exact ⟨q3, q2, (writeE_keep _ _ _ _ _).trans q5, hq.len.trans ((get_le hg).2.trans i3), by omega, by omega, fun h => absurd h he⟩
  | ok _ _ ht hp hg ha =>
    obtain ⟨rfl, rfl, rfl, rfl⟩ := poll_same hp
    obtain ⟨i1, i2, i3⟩ := txt_keep i ht
    have ha9 := get_ad hg (by rw [i3]; exact hP)
    obtain ⟨q1, q2, q3, q4, q5, _⟩ := tx_add ha (by rw [writeE_len]; exact hb) (by omega) (by omega) i1
    exact ⟨q3, q2, (writeE_keep _ _ _ _ _).trans q5, (get_le hg).2.trans i3, by omega, by omega, fun _ => rfl⟩
structure KS where
  (X2 : XC) (tk2 : List Bool) (nx2 ls2 : Nat) (br2 : Bool) (bs wh2 : List UInt8) (lo2 : Nat)
structure KS1 where
  (i : Nat) (X1 : XC) (tk1 : List Bool) (nx1 ls1 : Nat) (br1 : Bool) (lo1 : Nat) (t : KS)
structure KT (i : Nat) (t : KS) : Prop where
  tx : TxI 128 2 592 t.X2 t.tk2 t.nx2 t.ls2
  bl : t.bs.length = 592
  wl : t.wh2.length = 2
  lo : t.lo2 ≤ i
structure KI (s : KS1) : Prop where
  rx : RxI 0 4 208 64 592 s.X1 s.tk1 s.nx1 s.ls1
  lo : s.lo1 ≤ 65536 * s.i
  t : KT s.i s.t
theorem ks_start {X : XC} {tk : List Bool} {nx : Nat} {bs : List UInt8} (h : NewP 0 4 128 2 208 64 592 X tk nx bs) : KI ⟨0, X, tk, nx, 0, false, 0, ⟨[], List.replicate 2 false, 0, 0, false, bs, List.replicate 2 0, 0⟩⟩ :=
  ⟨h.rx, Nat.zero_le _, ⟨tx0 (by decide) (by decide) (by decide) (by decide), h.bl, rfl, Nat.zero_le _⟩⟩
structure RecvK (i e : Nat) (br' : Bool) (X' : XC) (tk' : List Bool) (nx' ls' : Nat) (bs' : List UInt8) (lo' : Nat) (fr : List (List UInt8)) : Prop where
  rx : RxI 0 4 208 64 592 X' tk' nx' ls'
  bl : bs'.length = 592
  lo : lo' ≤ 65536 * (i + 1)
  ff : ∀ f ∈ fr, 14 ≤ f.length ∧ f.length ≤ 52
  frl : fr.length ≤ 65536
  fin : (e = 20 ∧ br' = true) ∨ (e = 0 ∧ br' = false)
theorem recv_weak {LT : List Bool} {bs bs' : List UInt8} {ls lo k e nx' ls' lo' i : Nat} {br br' : Bool} {X' : XC} {tk' : List Bool} {fr : List (List UInt8)} (hlo : lo ≤ 65536 * i) (h : RecvP 0 4 208 64 592 LT bs ls br lo k e X' tk' nx' ls' br' bs' lo' fr) : RecvK i e br' X' tk' nx' ls' bs' lo' fr := by
  have h1 := losE_le bs 0 4 208 64 ls k
  have h2 := frsE_le bs 0 4 208 64 ls k
  have h3 := h.rv.kd
  have h4 : dstE bs 0 4 ls < 65536 := Nat.mod_lt _ (by omega)
  have h5 := h.rv.lo
  have h6 := h.rv.fr
  refine ⟨h.rv.rx, h.rv.bl, by omega, fun f hf => ?_, by rw [h6]; omega, ?_⟩
  · rw [h6] at hf
    exact frs_len k h.rv.sb f hf
  · rcases h.fin with h7 | h7
    · exact .inl h7
    · exact .inr ⟨h7.1, h7.2.1⟩
theorem heavy_spec (h : Array Obj) (l : List Stp) (a : Option Addr) (k : Nat) [hI : InpD h a (4 + 1) l.length k (l.flatMap stpV)] [hIP : InpP a (4 + 1) l.length k] (hok : ∀ j, (gt l j).ok) (hl : l.length < 4611686018427387904) :
    Sat Try.prog 23 [.slice a l.length k] [old h] (fun u L' => ∃ b : Bool, (b = false → l.length ≤ 100 ∧ ∀ j, j < l.length → (gt l j).s.length ≤ 16384) ∧ u = .bool b ∧ L' = [old h]) := by
  all_goals
    refine Sat.enter Try.func23 rfl Try.ntmps23 rfl (fun c R => ?_)
    try simp only [List.cons_append, List.nil_append]
    repeat' (first
      | (refine T.atB 0 ?_; refine T.lpa 0 [(0, _)] (0 : Nat) (fun i => [(3, .int .i64 (hvE l i : Nat)), (4, .int .i64 (i : Nat))]) (fun _ => []) (fun i => i ≤ l.length ∧ i ≤ 300) (fun i => l.length - i) ⟨Nat.zero_le _, by decide⟩ ?_; rintro i g ⟨hi, hi3⟩; have hv := hvE_le hok i; have hs1 := (hok i).s; simp only [List.cons_append, List.nil_append, appR])
      | (refine TQ.atL ?_; refine TQ.rd (i + 1 : Nat) rfl (by repeat first | exact trivial | refine ⟨rfl, ?_⟩) ⟨by omega, by omega⟩ (by omega) (Ent.imp (by repeat first | exact Imp.refl _ | (apply Imp.pull; focus ((repeat first | exact Del.head _ _ | apply Del.tail); done)) | apply Imp.drop)))
      | (refine finAt ?_; exact Fini.of ⟨true, fun h => Bool.noConfusion h, rfl, rfl⟩ (by repeat first | exact Imp.refl _ | (apply Imp.pull; focus ((repeat first | exact Del.head _ _ | apply Del.tail); done)) | apply Imp.drop))
      | (refine finAt ?_; exact Fini.of ⟨_, heavy_fin (i := i) (by omega) (by omega) _ (fun h => ⟨by omega, by have h9 := of_decide_eq_false h; omega⟩), rfl, rfl⟩ (by repeat first | exact Imp.refl _ | (apply Imp.pull; focus ((repeat first | exact Del.head _ _ | apply Del.tail); done)) | apply Imp.drop))
      | refine And.intro (fun hc => ?_) (fun hc => ?_)
      | refine And.intro ?_ ?_
      | intro b
      | refine stp ?_
      | refine TQ.finC ?_
      | refine TQ.finC2 ?_
      | refine TQ.finC3 ?_
      | refine ⟨fun hc => ?_, fun hc => ?_⟩
      | refine Ei.f ?_
      | refine ⟨?_, ?_⟩
      | intro b
      | exact absurd rfl hc
      | exact absurd hc (by decide)
      | omega
      | (dsimp only; omega)
      | fail)

end Go.Proofs.Ytimaecgdahmmdaa


namespace Go.Proofs.Ytimaecgdahmmdaa
open Go Pw
set_option maxRecDepth 20000
set_option maxHeartbeats 4000000
set_option synthInstance.maxHeartbeats 400000
set_option synthInstance.maxSize 4000
set_option maxHeartbeats 16000000

section
variable {P : Program} {r : Rd} {c : Ctx} {ns : List Nat} {ops : Array Oper} {Q : Exit → Env → Rd → World → Prop} {K : List Assn} {s : Sci} {L : List Assn} {E : Env}
theorem atK9US (h : US P r c ns ops Q K s L E) : US P r c ns ops Q K s L E := h
theorem atK9UN {i : Nat} (h : UN P r c ns ops Q K i s L E) : UN P r c ns ops Q K i s L E := h
theorem atK9USK (h : USK P r c ns ops Q K s L E) : USK P r c ns ops Q K s L E := h
end
theorem _root_.Pw.T.atKQ {P : Program} {r : Rd} {c : Ctx} {L : List Assn} {Q : Exit → Env → Rd → World → Prop} {E : Env} (cd : Operand) {x1 x2 : Code} (h : T P r c L (.cond cd x1 x2) Q E) : T P r c L (.cond cd x1 x2) Q E := h
theorem _root_.Pw.T.atSB {P : Program} {r : Rd} {c : Ctx} {L : List Assn} {Q : Exit → Env → Rd → World → Prop} {E : Env} (id : Nat) {x y : Code} (h : T P r c L (.seq (.block id x) y) Q E) : T P r c L (.seq (.block id x) y) Q E := h
theorem _root_.Pw.T.atBT {P : Program} {r : Rd} {c : Ctx} {L : List Assn} {Q : Exit → Env → Rd → World → Prop} {E : Env} (id : Nat) {x y : Code} (h : T P r c L (.block id x) (thenQ P r y Q) E) : T P r c L (.block id x) (thenQ P r y Q) E := h
instance {L R : List Assn} {h : Array Obj} {a : Option Addr} {n k : Nat} {l : List Stp} [ho : OldDel L h R] [hI : InpD h a (4 + 1) n k (l.flatMap stpV)] [hIP : InpP a (4 + 1) n k] : FnR Try.prog 23 [.slice a n k] L (fun kk => Vc (n = l.length ∧ (∀ j, (gt l j).ok) ∧ l.length < 4611686018427387904) (∀ b : Bool, (b = false → l.length ≤ 100 ∧ ∀ j, j < l.length → (gt l j).s.length ≤ 16384) → kk (.bool b) (old h :: R))) :=
  ⟨fun kk hh => by
    obtain ⟨⟨rfl, h1, h2⟩, h9⟩ := hh
    exact ⟨_, R, _, heavy_spec h l a k h1 h2, .cons ho.h (.nil _), fun v L' hv => by obtain ⟨b, e1, rfl, rfl⟩ := hv; exact h9 b e1⟩⟩
attribute [local irreducible] LTn brB nszN writeE numE partN sizeE
theorem keeps_law (h : Array Obj) (l : List Stp) (ao : Option Addr) (ko : Nat) [hI : InpD h ao (4 + 1) l.length ko (l.flatMap stpV)] [hIP : InpP ao (4 + 1) l.length ko] (hok : ∀ j, (gt l j).ok) (hol : l.length < 4611686018427387904) :
    Sat Try.prog 5 [.slice ao l.length ko] [old h] (fun u L' => u = .bool true ∧ L' = [old h]) := by
  have hg3 : True := trivial
  have hg4 : True := trivial
  have hg5 : True := trivial
  have hg8 : True := trivial
  have hg19 : True := trivial
  have hg27 : True := trivial
  have hg28 : True := trivial
  have hg33 : True := trivial
  have hn0 := nszK
  all_goals
    refine Sat.enter Try.func5 rfl Try.ntmps5 rfl (fun c R => ?_)
    try simp only [List.cons_append, List.nil_append]
    repeat' (first
      | (refine T.atKQ (.tmp 196) ?_; exfalso; first | exact absurd ‹decide (20 = 0) = true› (by decide) | exact absurd ‹decide ((20 : Int) = 0) = true› (by decide) | (revert ‹decide _ = true›; decide) | contradiction | omega)
      | (rw [sz4]; decide)
      | (rw [sz2]; decide)
      | (refine T.atR 3 ?_; clear hg3; obtain ⟨hl1, hl2⟩ := b ‹_ = false›)
      | (refine T.atR 4 ?_; clear hg4; obtain ⟨cb, hcb⟩ : ∃ x, x = b := ⟨_, rfl⟩; subst hcb)
      | (refine T.atR 5 ?_; clear hg5; obtain ⟨p_, hp_⟩ : ∃ x, x = b := ⟨_, rfl⟩; subst hp_; rw [nszK])
      | (refine ⟨128, 208, 592, ⟨layK, rfl, rfl⟩, ?_⟩)
      | (refine T.atR 8 ?_; clear hg8; rename_i nn r1 q1 m1 r2 q2 m2 X tk nx bs wh; have hnp := b; clear b)
      | (refine T.atB 0 ?_; refine T.ent (Ent.imp (show Imp _ (([row 81 nn [.pointer (some ⟨p_, 0, none⟩), .int .i64 ((64 : Nat) : Int), .pointer (some ⟨r1, 0, none⟩), .pointer (some ⟨q1, 0, none⟩), .map (some m1), .int .i64 (((⟨0, X, tk, nx, 0, false, 0, ⟨[], List.replicate 2 false, 0, 0, false, bs, List.replicate 2 0, 0⟩⟩ : KS1).lo1 : Nat)), .pointer (some ⟨r2, 0, none⟩), .pointer (some ⟨q2, 0, none⟩), .map (some m2), .int .i64 (((⟨0, X, tk, nx, 0, false, 0, ⟨[], List.replicate 2 false, 0, 0, false, bs, List.replicate 2 0, 0⟩⟩ : KS1).t.lo2 : Nat))], rgA r1 p_ 0 (⟨0, X, tk, nx, 0, false, 0, ⟨[], List.replicate 2 false, 0, 0, false, bs, List.replicate 2 0, 0⟩⟩ : KS1).X1 (⟨0, X, tk, nx, 0, false, 0, ⟨[], List.replicate 2 false, 0, 0, false, bs, List.replicate 2 0, 0⟩⟩ : KS1).tk1 (⟨0, X, tk, nx, 0, false, 0, ⟨[], List.replicate 2 false, 0, 0, false, bs, List.replicate 2 0, 0⟩⟩ : KS1).nx1 (⟨0, X, tk, nx, 0, false, 0, ⟨[], List.replicate 2 false, 0, 0, false, bs, List.replicate 2 0, 0⟩⟩ : KS1).ls1 (⟨0, X, tk, nx, 0, false, 0, ⟨[], List.replicate 2 false, 0, 0, false, bs, List.replicate 2 0, 0⟩⟩ : KS1).br1, rgA r2 p_ 128 (⟨0, X, tk, nx, 0, false, 0, ⟨[], List.replicate 2 false, 0, 0, false, bs, List.replicate 2 0, 0⟩⟩ : KS1).t.X2 (⟨0, X, tk, nx, 0, false, 0, ⟨[], List.replicate 2 false, 0, 0, false, bs, List.replicate 2 0, 0⟩⟩ : KS1).t.tk2 (⟨0, X, tk, nx, 0, false, 0, ⟨[], List.replicate 2 false, 0, 0, false, bs, List.replicate 2 0, 0⟩⟩ : KS1).t.nx2 (⟨0, X, tk, nx, 0, false, 0, ⟨[], List.replicate 2 false, 0, 0, false, bs, List.replicate 2 0, 0⟩⟩ : KS1).t.ls2 (⟨0, X, tk, nx, 0, false, 0, ⟨[], List.replicate 2 false, 0, 0, false, bs, List.replicate 2 0, 0⟩⟩ : KS1).t.br2, memA p_ (⟨0, X, tk, nx, 0, false, 0, ⟨[], List.replicate 2 false, 0, 0, false, bs, List.replicate 2 0, 0⟩⟩ : KS1).t.bs (LTn 0 4 128 2 208 64 592 4), mapJ u32W m1 (.u16, MX (⟨0, X, tk, nx, 0, false, 0, ⟨[], List.replicate 2 false, 0, 0, false, bs, List.replicate 2 0, 0⟩⟩ : KS1).X1), mapJ u32W m2 (.u16, MX (⟨0, X, tk, nx, 0, false, 0, ⟨[], List.replicate 2 false, 0, 0, false, bs, List.replicate 2 0, 0⟩⟩ : KS1).t.X2), poolV q2 p_ (208 + 4 * 64) 64 (⟨0, X, tk, nx, 0, false, 0, ⟨[], List.replicate 2 false, 0, 0, false, bs, List.replicate 2 0, 0⟩⟩ : KS1).t.wh2] ++ [row 26 cb [.int .i64 ((4 : Nat) : Int), .int .i64 ((2 : Nat) : Int), .int .i64 ((64 : Nat) : Int)], poolV q1 p_ 208 64 wh, old h]) ++ R) from (by repeat first | exact Imp.refl _ | (apply Imp.pull; focus ((repeat first | exact Del.head _ _ | apply Del.tail); done)) | apply Imp.drop))) ?_; simp only [List.cons_append, List.nil_append]; refine T.lpa 0 [(0, _), (4, _), (6, _)] (⟨0, X, tk, nx, 0, false, 0, ⟨[], List.replicate 2 false, 0, 0, false, bs, List.replicate 2 0, 0⟩⟩ : KS1) (fun s => [(7, .int .i64 (s.i : Nat))]) (fun s => [row 81 nn [.pointer (some ⟨p_, 0, none⟩), .int .i64 ((64 : Nat) : Int), .pointer (some ⟨r1, 0, none⟩), .pointer (some ⟨q1, 0, none⟩), .map (some m1), .int .i64 ((s.lo1 : Nat)), .pointer (some ⟨r2, 0, none⟩), .pointer (some ⟨q2, 0, none⟩), .map (some m2), .int .i64 ((s.t.lo2 : Nat))], rgA r1 p_ 0 s.X1 s.tk1 s.nx1 s.ls1 s.br1, rgA r2 p_ 128 s.t.X2 s.t.tk2 s.t.nx2 s.t.ls2 s.t.br2, memA p_ s.t.bs (LTn 0 4 128 2 208 64 592 4), mapJ u32W m1 (.u16, MX s.X1), mapJ u32W m2 (.u16, MX s.t.X2), poolV q2 p_ (208 + 4 * 64) 64 s.t.wh2]) (fun s => s.i ≤ l.length ∧ KI s) (fun s => l.length - s.i) ⟨Nat.zero_le _, ks_start hnp⟩ ?_; rintro ⟨i, X1, tk1, nx1, ls1, br1, lo1, ⟨X2, tk2, nx2, ls2, br2, bs, wh2, lo2⟩⟩ g ⟨hi, I⟩; dsimp only at hi I; have hrx := I.rx; have hl9 := I.lo; have htx := I.t.tx; have hbl := I.t.bl; have hwl := I.t.wl; have hlo2 := I.t.lo; dsimp only at hrx hl9 htx hbl hwl hlo2; have htl := hrx.tl; have hpt : partN tk1.length = 80 := (by rw [htl]; exact pt4); have hs1 := (hok i).s; have hs2 := (hok i).n; have hs3 := (hok i).x; have hs4 := (hok i).at_; have hsl := hl2 i; have hx2 := tx_len htx; have hx4 := hrx.xl; have hnl := numE_lt bs (0 + partN tk1.length + 2) 2; have hand : (gt l i).n &&& 1 ≤ 1 := Nat.and_le_right; dsimp only; simp only [List.cons_append, List.nil_append, appR])
      | (refine T.atSB 2 ?_; obtain ⟨b8, hb8⟩ : ∃ x, x = b := ⟨_, rfl⟩; subst hb8; refine T.cutb 2 (fun z : KS => [(0, .slice ao l.length ko), (4, .pointer (some ⟨p_, 0, none⟩)), (6, .pointer (some ⟨nn, 0, none⟩)), (7, .int .i64 (i : Nat))]) (fun z => row 81 nn [.pointer (some ⟨p_, 0, none⟩), .int .i64 ((64 : Nat) : Int), .pointer (some ⟨r1, 0, none⟩), .pointer (some ⟨q1, 0, none⟩), .map (some m1), .int .i64 ((lo1 : Nat)), .pointer (some ⟨r2, 0, none⟩), .pointer (some ⟨q2, 0, none⟩), .map (some m2), .int .i64 ((z.lo2 : Nat))] :: rgA r1 p_ 0 X1 tk1 nx1 ls1 br1 :: rgA r2 p_ 128 z.X2 z.tk2 z.nx2 z.ls2 z.br2 :: memA p_ z.bs (LTn 0 4 128 2 208 64 592 4) :: mapJ u32W m1 (.u16, MX X1) :: mapJ u32W m2 (.u16, MX z.X2) :: poolV q2 p_ (208 + 4 * 64) 64 z.wh2 :: row 26 cb [.int .i64 ((4 : Nat) : Int), .int .i64 ((2 : Nat) : Int), .int .i64 ((64 : Nat) : Int)] :: poolV q1 p_ 208 64 wh :: old h :: R) (fun z => KT (i + 1) z) ?_ (fun z g hT => ?_))
      | (refine T.atBT 2 ?_; obtain ⟨b8, hb8⟩ : ∃ x, x = b := ⟨_, rfl⟩; subst hb8; refine T.cutt 2 (fun z : KS => [(0, .slice ao l.length ko), (4, .pointer (some ⟨p_, 0, none⟩)), (6, .pointer (some ⟨nn, 0, none⟩)), (7, .int .i64 (i : Nat))]) (fun z => row 81 nn [.pointer (some ⟨p_, 0, none⟩), .int .i64 ((64 : Nat) : Int), .pointer (some ⟨r1, 0, none⟩), .pointer (some ⟨q1, 0, none⟩), .map (some m1), .int .i64 ((lo1 : Nat)), .pointer (some ⟨r2, 0, none⟩), .pointer (some ⟨q2, 0, none⟩), .map (some m2), .int .i64 ((z.lo2 : Nat))] :: rgA r1 p_ 0 X1 tk1 nx1 ls1 br1 :: rgA r2 p_ 128 z.X2 z.tk2 z.nx2 z.ls2 z.br2 :: memA p_ z.bs (LTn 0 4 128 2 208 64 592 4) :: mapJ u32W m1 (.u16, MX X1) :: mapJ u32W m2 (.u16, MX z.X2) :: poolV q2 p_ (208 + 4 * 64) 64 z.wh2 :: row 26 cb [.int .i64 ((4 : Nat) : Int), .int .i64 ((2 : Nat) : Int), .int .i64 ((64 : Nat) : Int)] :: poolV q1 p_ 208 64 wh :: old h :: R) (fun z => KT (i + 1) z) ?_ (fun z g hT => ?_))
      | (refine ⟨2, 592, ⟨rfl, rfl, htx, hbl, by omega, by decide, by decide, by decide, by rw [hwl]; decide, by omega, by have := hsl (by assumption); omega⟩, ?_⟩)
      | (refine T.atR 19 ?_; clear hg19; rename_i e3 bs3 X3 tk3 nx3 ls3 br3 wh3 lo3; have hsw := send_weak htx hbl (by have := hsl (by assumption); omega) (by rw [hwl]; decide) b; have hsx := hsw.xl; have hsk := hsw.ok; have hs9 := tx_len hsw.tx; have hso := hsw.l1)
      | (refine T.atR 21 ?_; exfalso; omega)
      | (refine TQ.atC ?_; refine TQ.cn (⟨X3, tk3, nx3, ls3, br3, bs3, wh3, lo3⟩ : KS) rfl (by repeat first | exact trivial | refine ⟨rfl, ?_⟩) ⟨hsw.tx, hsw.bl, hsw.wl.trans hwl, (by dsimp only; omega)⟩ (Ent.imp (by repeat first | exact Imp.refl _ | (apply Imp.pull; focus ((repeat first | exact Del.head _ _ | apply Del.tail); done)) | apply Imp.drop)))
      | (refine TQ.atC ?_; refine TQ.cn (⟨X2, tk2, nx2, ls2, br2, _, wh2, lo2⟩ : KS) rfl (by repeat first | exact trivial | refine ⟨rfl, ?_⟩) ?_ (Ent.imp (by repeat first | exact Imp.refl _ | (apply Imp.pull; focus ((repeat first | exact Del.head _ _ | apply Del.tail); done)) | apply Imp.drop)); exact ⟨htx, (by dsimp only; (repeat rw [writeE_len]); exact hbl), hwl, (by dsimp only; omega)⟩)
      | (refine T.atR 27 ?_; clear hg27; obtain ⟨X2, tk2, nx2, ls2, br2, bs, wh2, lo2⟩ := z; dsimp only at hT ⊢)
      | (refine ⟨4, 208, 592, ⟨rfl, LTn_geo layK, hrx, hT.bl, by omega⟩, ?_⟩)
      | (refine T.atR 28 ?_; clear hg28; rename_i k1 e1 X3 tk3 nx3 ls3 br3 bs3 lo3 fr3 a9 k9; have hrk := recv_weak hl9 b; have htl3 := hrk.rx.tl; have hff := hrk.ff; have hfl := hrk.frl)
      | (refine T.atB 3 ?_; refine T.lpa 3 [(0, _), (4, _), (6, _), (7, _), (17, _), (18, _)] (0 : Nat) (fun k => [(19, .int .i64 (k : Nat))]) (fun _ => []) (fun k => k ≤ fr3.length) (fun k => fr3.length - k) (Nat.zero_le _) ?_; rintro kf g hkf; have hfk := fun h : kf < fr3.length => gt_all' hff h; simp only [List.cons_append, List.nil_append, appR])
      | (refine T.atR 32 ?_; exfalso; have hfk9 := hfk (by assumption); omega)
      | (refine TQ.atL ?_; refine TQ.rd (kf + 1 : Nat) rfl (by repeat first | exact trivial | refine ⟨rfl, ?_⟩) (by omega) (by omega) (Ent.imp (by repeat first | exact Imp.refl _ | (apply Imp.pull; focus ((repeat first | exact Del.head _ _ | apply Del.tail); done)) | apply Imp.drop)))
      | (refine T.atR 33 ?_; clear hg33; have hx5 := hrk.rx.xl; rcases hrk.fin with ⟨rfl, rfl⟩ | ⟨rfl, rfl⟩)
      | (refine T.atR 34 ?_; exfalso; omega)
      | (refine TQ.atL ?_; refine TQ.rd (⟨i + 1, X3, tk3, nx3, ls3, _, lo3, ⟨X2, tk2, nx2, ls2, br2, bs3, wh2, lo2⟩⟩ : KS1) rfl (by repeat first | exact trivial | refine ⟨rfl, ?_⟩) ⟨Nat.succ_le_of_lt (by assumption), ⟨hrk.rx, hrk.lo, ⟨hT.tx, hrk.bl, hT.wl, hT.lo⟩⟩⟩ (by dsimp only; omega) (Ent.imp (by repeat first | exact Imp.refl _ | (apply Imp.pull; focus ((repeat first | exact Del.head _ _ | apply Del.tail); done)) | apply Imp.drop)))
      | (exact Fini.of ⟨rfl, rfl⟩ (by repeat first | exact Imp.refl _ | (apply Imp.pull; focus ((repeat first | exact Del.head _ _ | apply Del.tail); done)) | apply Imp.drop))
      | exact hok
      | (rw [List.length_append, leB_len, leB_len]; omega)
      | (rw [leB_len]; omega)
      | (rw [leB_len, leB_len]; omega)
      | refine T.pk 24 [2, 3, 13, 17, 19] (.p 0 (.p 1 (.p 5 (.g 6 (.p 7 (.p 8 (.p 10 (.g 11 (.p 12 (.p 14 (.g 15 (.p 16 (.n 2 (.n 3 (.p 4 (.p 9 (.n 13 (.n 17 (.p 18 (.n 19 .fin)))))))))))))))))))) ?_
      | refine T.pk 26 [2, 3, 12, 13] (.p 0 (.p 1 (.p 5 (.p 6 (.p 7 (.g 8 (.p 9 (.p 10 (.p 11 (.n 2 (.n 3 (.p 4 (.n 12 (.n 13 .fin)))))))))))))) ?_
      | refine And.intro (fun hc => ?_) (fun hc => ?_)
      | refine And.intro ?_ ?_
      | intro b
      | ((first | refine atK9US ?_ | refine atK9USK ?_ | refine atK9UN ?_); refine stk ?_)
      | refine stp ?_
      | refine TQ.finC ?_
      | refine TQ.finC2 ?_
      | refine TQ.finC3 ?_
      | refine ⟨fun hc => ?_, fun hc => ?_⟩
      | refine Ei.f ?_
      | refine ⟨?_, ?_⟩
      | intro b
      | exact absurd rfl hc
      | exact absurd hc (by decide)
      | omega
      | (dsimp only; omega)
      | fail)

end Go.Proofs.Ytimaecgdahmmdaa

