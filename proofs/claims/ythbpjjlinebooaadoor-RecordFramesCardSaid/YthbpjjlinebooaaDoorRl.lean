/- Lemmas for the proofs of this seat: no statement of the seat is claimed here. -/
import Derived.Test.YthbpjjlinebooaaDoorKf
import Derived.Test.YthbpjjlinebooaaDoorKc
import Derived.Test.YthbpjjlinebooaaDoorRh
import Derived.Test.YthbpjjlinebooaaDoorRj
set_option linter.all false

namespace Go.Proofs.YthbpjjlinebooaaDoor
open Go Pw
set_option maxRecDepth 20000
set_option maxHeartbeats 4000000
set_option synthInstance.maxHeartbeats 400000
set_option synthInstance.maxSize 4000
set_option maxHeartbeats 400000
theorem chunk16k_spec {c : Ctx} {l : Nat} {o : Loop} (b n cap bs bn : Nat) (H : Nat → List Assn) (hn : n < 4294967296) (hcap : n ≤ cap) (ho : o.params.size = 1) (h2 : o.state = .ready) (h3 : o.pending = none)
    (hy : ∀ j, 16384 * j < n → Yl Tryd.prog c l o [.slice (some ⟨b, 16384 * j, none⟩) (min 16384 (n - 16384 * j)) (min 16384 (n - 16384 * j))] (H j) (fun L1 => L1 = H (j + 1))) :
    SatC Tryd.prog c 67 [.func (.yield l) #[] #[], .pointer (some ⟨bs, 0, none⟩), .pointer (some ⟨bn, 0, none⟩)] (pt l (.loop o) :: row 42 bs [.slice (some ⟨b, 0, none⟩) n cap] :: row 3 bn [.int .i64 16384] :: H 0) (fun _ L' => L' = pt l (.loop o) :: row 42 bs [.slice (some ⟨b, 0, none⟩) n cap] :: row 3 bn [.int .i64 16384] :: H ((n + 16383) / 16384)) := by
  refine SatC.enter Tryd.func67 rfl Tryd.ntmps67 rfl (fun R => ?_)
  simp only [List.cons_append, List.nil_append]
  repeat' (first
    | (refine T.atB 0 ?_; refine T.lp 0 [(0, _), (1, _), (2, _)] (0 : Nat) (fun j => [(4, .int .i64 ((16384 * j : Nat) : Int))]) (fun j => pt l (.loop o) :: row 42 bs [.slice (some ⟨b, 0, none⟩) n cap] :: row 3 bn [.int .i64 16384] :: (H j ++ R)) (fun j => 16384 * j ≤ n + 16383) (fun j => n + 16384 - 16384 * j) (by repeat' first | exact trivial | refine ⟨?_, ?_⟩ | (conv => lhs; whnf)) ⟨rfl, trivial⟩ (by omega) (Ent.refl _ _) ?_; intro j g hI; simp only [List.cons_append, List.nil_append, appR])
    | (refine TQ.rd (j + 1) rfl ⟨by rw [Nat.mul_succ]; rfl, rfl, rfl, rfl, trivial⟩ (by omega) (by omega) (Ent.refl _ _))
    | (have ej : j = (n + 16383) / 16384 := (by omega); subst ej; exact Fini.mk (L' := pt l (.loop o) :: row 42 bs [.slice (some ⟨b, 0, none⟩) n cap] :: row 3 bn [.int .i64 16384] :: H ((n + 16383) / 16384)) rfl)
    | refine T.pl 3 [] (.p 2 (.d 0 (.d 1 (.p 3 (.p 4 (.p 5 (.p 6 .fin))))))) ?_
    | refine And.intro (fun hc => ?_) (fun hc => ?_)
    | refine And.intro ?_ ?_
    | intro b
    | refine stp ?_
    | refine TQ.finC ?_
    | refine TQ.finC2 ?_
    | refine TQ.finC3 ?_
    | refine ⟨fun hc => ?_, fun hc => ?_⟩
    | refine Ei.f ?_
    | refine ⟨?_, ?_⟩
    | intro b
    | omega
    | (dsimp only; omega)
    | (dsimp only; refine TO.yl (hy j ‹_›) ?_ ho.symm h2 h3 ?_; rotate_left; rintro L1 rfl)
    | (rw [show 16384 * j * (0 + 1) = 16384 * j by omega, show 16384 * j + min 16384 (n - 16384 * j) - 16384 * j = min 16384 (n - 16384 * j) by omega])
    | fail)

end Go.Proofs.YthbpjjlinebooaaDoor


namespace Go.Proofs.YthbpjjlinebooaaDoor
open Go Pw
set_option maxRecDepth 20000
set_option maxHeartbeats 4000000
set_option synthInstance.maxHeartbeats 400000
set_option synthInstance.maxSize 4000
set_option maxHeartbeats 1000000

/-- A text in pieces: the piece i, and the records of the first j pieces. -/
def pce (s : List UInt8) (i : Nat) : List UInt8 := (s.drop (16384 * i)).take (min 16384 (s.length - 16384 * i))
def spl (k : Nat) (s : List UInt8) (j : Nat) : List (Nat × List UInt8) := (List.range j).map fun i => (k, pce s i)
def splE (k : Nat) (s : List UInt8) : List (Nat × List UInt8) := spl k s ((s.length + 16383) / 16384)
theorem spl_len (k : Nat) (s : List UInt8) (j : Nat) : (spl k s j).length = j := by simp [spl]
theorem spl_next (k : Nat) (s : List UInt8) (j : Nat) : spl k s (j + 1) = spl k s j ++ [(k, pce s j)] := by simp [spl, List.range_succ]
theorem spl_flat (k : Nat) (s : List UInt8) (j : Nat) : (spl k s j).flatMap recV ++ recV (k, pce s j) = (spl k s (j + 1)).flatMap recV := by rw [spl_next]; simp
theorem spl_lens (k : Nat) (s : List UInt8) (j : Nat) : (spl k s j).length + 1 = (spl k s (j + 1)).length := by rw [spl_len, spl_len]
theorem pce_ref (s : List UInt8) (j : Nat) : (s.take (min (16384 * j + 16384) s.length)).drop (16384 * j) = pce s j := by
  unfold pce; rw [List.drop_take]; congr 1; omega
theorem spl_flen (k : Nat) (s : List UInt8) (j : Nat) : ((spl k s j).flatMap recV).length = (spl k s j).length * 2 := flat_len _
theorem spl_imp (k : Nat) (s : List UInt8) {L : List Assn} : Imp L (sl 44 2 (.slice none (spl k s 0).length 0) (spl k s 0).length ((spl k s 0).flatMap recV) :: L) := Imp.slN (Imp.refl _)
attribute [local irreducible] pce
theorem rsplit_spec (k : Nat) (s : List UInt8) (hk : k < 256) (hs : s.length < 1099511627776) :
    Sat Tryd.prog 28 [.int .u8 (k : Nat), str s] [] (fun u L' => ∃ a n2, u = .slice a (splE k s).length n2 ∧ L' = [rdL 44 2 (.slice a (splE k s).length n2) (splE k s).length ((splE k s).flatMap recV)]) := by
  all_goals
    refine Sat.enter Tryd.func28 rfl Tryd.ntmps28 rfl (fun c R => ?_)
    try simp only [List.cons_append, List.nil_append]
    repeat' (first
      | (refine T.atB 0 ?_; refine T.ent (Ent.imp (spl_imp k s)) ?_; refine T.lpa 0 [(0, _), (1, _)] ((0, (none, 0)) : Nat × (Option Addr × Nat)) (fun z => [(5, .slice z.2.1 (spl k s z.1).length z.2.2), (6, .int .i64 ((16384 * z.1 : Nat) : Int))]) (fun z => [sl 44 2 (.slice z.2.1 (spl k s z.1).length z.2.2) (spl k s z.1).length ((spl k s z.1).flatMap recV)]) (fun z => 16384 * z.1 ≤ s.length + 16383) (fun z => s.length + 16384 - 16384 * z.1) (by dsimp only; omega) ?_; rintro ⟨j, ⟨a2, k2⟩⟩ g hI; dsimp only at hI ⊢; have hsl := spl_len k s j; simp only [List.cons_append, List.nil_append, appR])
      | (refine TQ.atL ?_; rename_i a4; simp only [pce_ref]; rw [spl_lens, spl_flat]; refine TQ.rd ((j + 1, (a4, b)) : Nat × (Option Addr × Nat)) rfl ⟨rfl, by rw [Nat.mul_succ]; rfl, rfl, rfl, trivial⟩ (by dsimp only; omega) (by dsimp only; omega) (Ent.imp (by repeat first | exact Imp.refl _ | (apply Imp.pull; focus ((repeat first | exact Del.head _ _ | apply Del.tail); done)) | apply Imp.drop)))
      | (have ej : j = (s.length + 16383) / 16384 := (by omega); subst ej; exact Fini.of ⟨_, _, rfl, rfl⟩ (by repeat first | exact Imp.refl _ | (apply Imp.pull; focus ((repeat first | exact Del.head _ _ | apply Del.tail); done)) | (apply Imp.rdX; focus ((repeat first | exact Del.head _ _ | apply Del.tail); done)) | apply Imp.drop))
      | exact spl_flen _ _ _
      | exact (rfl : (44 : Nat) = 44)
      | exact trivial
      | refine And.intro (fun hc => ?_) (fun hc => ?_)
      | refine And.intro ?_ ?_
      | intro b
      | refine stp ?_
      | refine TQ.finC ?_
      | refine TQ.finC2 ?_
      | refine TQ.finC3 ?_
      | refine ⟨fun hc => ?_, fun hc => ?_⟩
      | refine Ei.f ?_
      | refine ⟨?_, ?_⟩
      | intro b
      | omega
      | (dsimp only; omega)
      | (simp only [List.length_append, List.length_replicate, List.length_cons, List.length_nil] <;> omega)
      | fail)

end Go.Proofs.YthbpjjlinebooaaDoor


namespace Go.Proofs.YthbpjjlinebooaaDoor
open Go Pw
set_option maxRecDepth 20000
set_option maxHeartbeats 4000000
set_option synthInstance.maxHeartbeats 400000
set_option synthInstance.maxSize 4000
set_option maxHeartbeats 1000000

/-- The list of the first records, wherever it lies. -/
def lstA (ab k : Nat) (s : List UInt8) (j : Nat) : Assn := exA (fun _ : Option Addr × Nat => True) (fun z => [Pw.row 30 ab [.slice z.1 (spl k s j).length z.2], sl 44 2 (.slice z.1 (spl k s j).length z.2) (spl k s j).length ((spl k s j).flatMap recV)])
theorem Imp.lst {ab k j n2 : Nat} {s : List UInt8} {a : Option Addr} {L L' R2 R3 : List Assn} (h1 : Del (Pw.row 30 ab [.slice a (spl k s j).length n2]) L R2) (h2 : Del (sl 44 2 (.slice a (spl k s j).length n2) (spl k s j).length ((spl k s j).flatMap recV)) R2 R3) (i : Imp R3 L') : Imp L (lstA ab k s j :: L') := Imp.shutA (a, n2) trivial (Imp.pull h1 (Imp.pull h2 i))
theorem T.openL {P : Program} {r : Rd} {c : Ctx} {L R : List Assn} {Q : Exit → Env → Rd → World → Prop} {E : Env} {code : Code} {ab k j : Nat} {s : List UInt8} (hd : Del (lstA ab k s j) L R) (h : ∀ a n2, T P r c (Pw.row 30 ab [.slice a (spl k s j).length n2] :: sl 44 2 (.slice a (spl k s j).length n2) (spl k s j).length ((spl k s j).flatMap recV) :: R) code Q E) : T P r c L code Q E :=
  T.openA hd (fun z _ => h z.1 z.2)
theorem Imp.lst0 {ab k : Nat} {s : List UInt8} {L L' R2 : List Assn} (h1 : Del (Pw.row 30 ab [.slice none 0 0]) L R2) (i : Imp R2 L') : Imp L (lstA ab k s 0 :: L') := Imp.shutA (none, 0) trivial (Imp.pull h1 (Imp.slN i))
attribute [local irreducible] spl lstA pce

theorem split_round {c : Ctx} {R : List Assn} {l : Nat} {o : Loop} {g : Nat → Value} (yb kb ab j k : Nat) (tx : List UInt8) (rest : List Value) (hk : k < 256) (hn : tx.length < 1099511627776) (hj : 16384 * j < tx.length) :
    T Tryd.prog ⟨some l, []⟩ c (pt l (.loop (busy o)) :: row 5 yb (tx.map byteV ++ rest) :: row 5 kb [.int .u8 (k : Nat)] :: lstA ab k tx j :: R) (blkOf Tryd.f27 1) (endQ c l o R (fun L1 => L1 = [row 5 yb (tx.map byteV ++ rest), row 5 kb [.int .u8 (k : Nat)], lstA ab k tx (j + 1)])) ⟨20, [(6, .slice (some ⟨yb, 16384 * j, none⟩) (min 16384 (tx.length - 16384 * j)) (min 16384 (tx.length - 16384 * j))), (5, .pointer (some ⟨ab, 0, none⟩)), (2, .pointer (some ⟨kb, 0, none⟩))], g⟩ := by
  have hsl := spl_len k tx j
  refine T.code ?_
  repeat' (first
    | (refine T.atR 4 ?_; refine T.openL (by repeat (first | exact Del.head _ _ | apply Del.tail)) (fun a n2 => ?_))
    | (rename_i a4; rw [show (tx.drop (16384 * j)).take (min 16384 (tx.length - 16384 * j)) = pce tx j by rw [pce], spl_lens, spl_flat]; exact TQ.endR rfl (Ent.imp (by repeat first | exact Imp.refl _ | (apply Imp.pull; focus ((repeat first | exact Del.head _ _ | apply Del.tail); done)) | (refine Imp.lst (a := a4) (n2 := b) (by repeat (first | exact Del.head _ _ | apply Del.tail)) (by repeat (first | exact Del.head _ _ | apply Del.tail)) ?_) | apply Imp.drop)))
    | exact spl_flen _ _ _
    | exact (rfl : (44 : Nat) = 44)
    | exact trivial
    | refine And.intro (fun hc => ?_) (fun hc => ?_)
    | refine And.intro ?_ ?_
    | intro b
    | refine stp ?_
    | refine TQ.finC ?_
    | refine TQ.finC2 ?_
    | refine TQ.finC3 ?_
    | refine ⟨fun hc => ?_, fun hc => ?_⟩
    | refine Ei.f ?_
    | refine ⟨?_, ?_⟩
    | intro b
    | omega
    | (dsimp only; omega)
    | (simp only [List.length_append, List.length_replicate, List.length_cons, List.length_nil] <;> omega)
    | fail)
theorem split_spec (k : Nat) (tx : List UInt8) (hk : k < 256) (hn : tx.length < 1099511627776) (hn2 : tx.length < 4294967296) :
    Sat Tryd.prog 27 [.int .u8 (k : Nat), str tx] [] (fun u L' => ∃ a, u = .slice a (splE k tx).length (splE k tx).length ∧ L' = [rdL 44 2 (.slice a (splE k tx).length (splE k tx).length) (splE k tx).length ((splE k tx).flatMap recV)]) := by
  all_goals
    refine Sat.enter Tryd.func27 rfl Tryd.ntmps27 rfl (fun c R => ?_)
    try simp only [List.cons_append, List.nil_append]
    repeat' (first
      | (refine T.atG ?_; rename_i kb ab yb k0 bs; obtain ⟨bn, hbn⟩ : ∃ bn, bn = b := ⟨_, rfl⟩; subst hbn; refine T.open_sl (e := 5) (by repeat (first | exact Del.head _ _ | apply Del.tail)) (fun h _ _ => by cases h) (fun y9 k9 rest e1 e2 e3 => ?_); cases e1; refine T.ent (Ent.imp (show Imp _ (row 42 bs [.slice (some ⟨yb, 0, none⟩) tx.length (tx.length + k9)] :: row 3 bn [.int .i64 ((16384 : Nat) : Int)] :: row 5 yb (tx.map byteV ++ rest) :: row 5 kb [.int .u8 (k : Nat)] :: lstA ab k tx 0 :: _) from (by repeat first | exact Imp.refl _ | (apply Imp.pull; focus ((repeat first | exact Del.head _ _ | apply Del.tail); done)) | exact Imp.lst0 (by repeat (first | exact Del.head _ _ | apply Del.tail)) (Imp.refl _)))) ?_; refine T.rng (A := row 42 bs [.slice (some ⟨yb, 0, none⟩) tx.length (tx.length + k9)] :: row 3 bn [.int .i64 ((16384 : Nat) : Int)] :: [row 5 yb (tx.map byteV ++ rest), row 5 kb [.int .u8 (k : Nat)], lstA ab k tx 0]) (first := []) (cap := [.pointer (some ⟨bs, 0, none⟩), .pointer (some ⟨bn, 0, none⟩)]) rfl Tryd.call67 (PickC.h) (fun L1 => L1 = row 42 bs [.slice (some ⟨yb, 0, none⟩) tx.length (tx.length + k9)] :: row 3 bn [.int .i64 ((16384 : Nat) : Int)] :: (fun j => [row 5 yb (tx.map byteV ++ rest), row 5 kb [.int .u8 (k : Nat)], lstA ab k tx j]) ((tx.length + 16383) / 16384)) ?_ ?_)
      | (intro l m fn; refine SatC.post (chunk16k_spec yb tx.length (tx.length + k9) bs bn (fun j => [row 5 yb (tx.map byteV ++ rest), row 5 kb [.int .u8 (k : Nat)], lstA ab k tx j]) hn2 (by omega) rfl rfl rfl (fun j hj => Yl.of1 (fun R => ?_))) (fun v L' h => ⟨_, rfl, h⟩); simp only [List.cons_append, List.nil_append])
      | (refine TQ.thenR ?_)
      | (refine T.atB 1 ?_; refine T.useE (fun g => split_round yb kb ab j k tx rest hk hn hj))
      | (intro m L1 hL1; subst hL1; simp only [List.cons_append, List.nil_append])
      | (refine T.atR 5 ?_; refine T.openL (by repeat (first | exact Del.head _ _ | apply Del.tail)) (fun a n2 => ?_))
      | (refine TQ.finM ?_; exact Fini.of ⟨_, rfl, rfl⟩ (by repeat first | exact Imp.refl _ | (apply Imp.pull; focus ((repeat first | exact Del.head _ _ | apply Del.tail); done)) | (apply Imp.rdX; focus ((repeat first | exact Del.head _ _ | apply Del.tail); done)) | apply Imp.drop))
      | refine And.intro (fun hc => ?_) (fun hc => ?_)
      | refine And.intro ?_ ?_
      | intro b
      | refine stp ?_
      | refine TQ.finC ?_
      | refine TQ.finC2 ?_
      | refine TQ.finC3 ?_
      | refine ⟨fun hc => ?_, fun hc => ?_⟩
      | refine Ei.f ?_
      | refine ⟨?_, ?_⟩
      | intro b
      | omega
      | (dsimp only; omega)
      | (simp only [List.length_append, List.length_replicate, List.length_cons, List.length_nil] <;> omega)
      | fail)

end Go.Proofs.YthbpjjlinebooaaDoor


namespace Go.Proofs.YthbpjjlinebooaaDoor
open Go Pw
set_option maxRecDepth 20000
set_option maxHeartbeats 4000000
set_option synthInstance.maxHeartbeats 400000
set_option synthInstance.maxSize 4000
set_option maxHeartbeats 1000000

instance {L : List Assn} {k : Nat} {x : Int} {s : List UInt8} [hx : Nn x k] : FnR Tryd.prog 27 [.int .u8 x, str s] L (fun q => Vc (k < 256 ∧ s.length < 4294967296) (∀ a, q (.slice a (splE k s).length (splE k s).length) (rdL 44 2 (.slice a (splE k s).length (splE k s).length) (splE k s).length ((splE k s).flatMap recV) :: L))) :=
  ⟨fun q h => ⟨[], L, _, by rw [hx.h]; exact split_spec k s h.l.1 (by have := h.l.2; omega) h.l.2, .nil _, fun v L' hv => by
    obtain ⟨a, h1, h2⟩ := hv
    rw [h1, h2]; exact h.r a⟩⟩
instance {L : List Assn} {k : Nat} {x : Int} {s : List UInt8} [hx : Nn x k] : FnR Tryd.prog 28 [.int .u8 x, str s] L (fun q => Vc (k < 256 ∧ s.length < 4294967296) (∀ a n2, q (.slice a (splE k s).length n2) (rdL 44 2 (.slice a (splE k s).length n2) (splE k s).length ((splE k s).flatMap recV) :: L))) :=
  ⟨fun q h => ⟨[], L, _, by rw [hx.h]; exact rsplit_spec k s h.l.1 (by have := h.l.2; omega), .nil _, fun v L' hv => by
    obtain ⟨a, n2, h1, h2⟩ := hv
    rw [h1, h2]; exact h.r a n2⟩⟩
theorem splE_lt {k : Nat} {s : List UInt8} (h : s.length < 4294967296) : (splE k s).length < 4294967296 := by unfold splE; rw [spl_len]; omega
attribute [local irreducible] splE FrameE
theorem frames_spec (r : Nat × List UInt8) (kind : Nat) (s : List UInt8) (hk : r.1 < 256) (hr : r.2.length < 4611686018427387904) (hk2 : kind < 256) (hs : s.length < 4611686018427387904) :
    Sat Tryd.prog 8 [.agg (recV r).toArray, .int .u8 (kind : Nat), str s] [quA] (fun u L' => u = .bool true ∧ L' = [quA]) := by
  all_goals
    refine Sat.enter Tryd.func8 rfl Tryd.ntmps8 rfl (fun c R => ?_)
    try simp only [List.cons_append, List.nil_append]
    repeat' (first
      | exact absurd rfl hc
      | (exact Fini.of ⟨rfl, rfl⟩ (by repeat first | exact Imp.refl _ | (apply Imp.pull; focus ((repeat first | exact Del.head _ _ | apply Del.tail); done)) | apply Imp.drop))
      | (exact Fini.of ⟨congrArg Value.bool (decide_eq_true rfl), rfl⟩ (by repeat first | exact Imp.refl _ | (apply Imp.pull; focus ((repeat first | exact Del.head _ _ | apply Del.tail); done)) | apply Imp.drop))
      | (refine Vc.mk ⟨rfl, rfl, splE_lt (by omega), splE_lt (by omega)⟩ ?_)
      | refine And.intro (fun hc => ?_) (fun hc => ?_)
      | refine And.intro ?_ ?_
      | intro b
      | refine stp ?_
      | refine TQ.finC ?_
      | refine TQ.finC2 ?_
      | refine TQ.finC3 ?_
      | refine ⟨fun hc => ?_, fun hc => ?_⟩
      | refine Ei.f ?_
      | refine ⟨?_, ?_⟩
      | intro b
      | omega
      | (dsimp only; omega)
      | (simp only [List.length_append, List.length_replicate, List.length_cons, List.length_nil] <;> omega)
      | fail)

end Go.Proofs.YthbpjjlinebooaaDoor

