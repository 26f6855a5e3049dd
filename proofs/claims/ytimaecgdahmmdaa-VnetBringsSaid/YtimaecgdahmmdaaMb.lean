/- Lemmas for the proofs of this seat: no statement of the seat is claimed here. -/
import Derived.Test.YtimaecgdahmmdaaLa
import Derived.Test.YtimaecgdahmmdaaKc
import Derived.Test.YtimaecgdahmmdaaMa
import Derived.Test.YtimaecgdahmmdaaLb
set_option linter.all false

namespace Go.Proofs.Ytimaecgdahmmdaa
open Go Pw
set_option maxRecDepth 20000
set_option maxHeartbeats 4000000
set_option synthInstance.maxHeartbeats 400000
set_option synthInstance.maxSize 4000
set_option maxHeartbeats 8000000

/-- A chain that goes is used. -/
def brT (bs : List UInt8) (A n k h : Nat) : List UInt8 := putB (putB bs (A + partN n + 4 + 8 * (k % n)) (leB h 4 ++ leB 0 4)) (A + partN n + 2) (leB ((k + 1) % 65536) 2)
section
variable {A n Q bz N : Nat} {LT : List Bool} {bs : List UInt8} {k h : Nat}
theorem TxG.slot (g : TxG A n Q bz N LT) (l : Nat) : A + partN n + 4 ≤ slotE A n l ∧ slotE A n l + 8 ≤ A + sizeE (n : Nat) := by
  have := Nat.mod_lt l g.n0
  have := g.sz
  unfold slotE
  omega
theorem tw2 (g : TxG A n Q bz N LT) (hb : bs.length = N) {s8 : List UInt8} (h8 : s8.length = 8) : writeE bs LT (A + partN n + 4 + 8 * (k % n)) s8 true 12 = (0, putB bs (A + partN n + 4 + 8 * (k % n)) s8) := by
  have h1 := g.slot k
  have h2 := g.AQ
  have h3 := g.QN
  unfold slotE at h1
  exact writeE_ok (by omega) ((allB_iff (by rw [g.lt]; omega)).2 fun j h4 h5 => g.us j (by omega) (by omega))
theorem tw3 (g : TxG A n Q bz N LT) (hb : bs.length = N) {s2 : List UInt8} (h2 : s2.length = 2) : writeE bs LT (A + partN n + 2) s2 true 12 = (0, putB bs (A + partN n + 2) s2) := by
  have h1 := g.sz
  have h3 := g.AQ
  have h4 := g.QN
  exact writeE_ok (by omega) ((allB_iff (by rw [g.lt]; omega)).2 fun j h5 h6 => g.us j (by omega) (by omega))
theorem brT_len (g : TxG A n Q bz N LT) (hb : bs.length = N) : (brT bs A n k h).length = N := by
  have h2 := g.slot k
  have h3 := g.AQ
  have h4 := g.QN
  have h5 := leB_len h 4
  have h6 := leB_len 0 4
  have h7 := leB_len ((k + 1) % 65536) 2
  unfold slotE at h2
  unfold brT
  have e2 : (putB bs (A + partN n + 4 + 8 * (k % n)) (leB h 4 ++ leB 0 4)).length = N := by rw [putB_len (by rw [List.length_append]; omega), hb]
  rw [putB_len (by omega), e2]
theorem brT_get (g : TxG A n Q bz N LT) (hb : bs.length = N) (j : Nat) : (brT bs A n k h)[j]? = if A + partN n + 2 ≤ j ∧ j < A + partN n + 4 then (leB ((k + 1) % 65536) 2)[j - (A + partN n + 2)]? else if slotE A n k ≤ j ∧ j < slotE A n k + 8 then (leB h 4 ++ leB 0 4)[j - slotE A n k]? else bs[j]? := by
  have h2 := g.slot k
  have h3 := g.AQ
  have h4 := g.QN
  have h5 := leB_len h 4
  have h6 := leB_len 0 4
  have h7 := leB_len ((k + 1) % 65536) 2
  unfold brT
  unfold slotE at h2 ⊢
  have e2 : (putB bs (A + partN n + 4 + 8 * (k % n)) (leB h 4 ++ leB 0 4)).length = N := by rw [putB_len (by rw [List.length_append]; omega), hb]
  rw [putB_get (by omega), putB_get (by rw [List.length_append]; omega), h7, List.length_append, h5, h6]
theorem brT_ix (g : TxG A n Q bz N LT) (hb : bs.length = N) : ixE (brT bs A n k h) A n = (k + 1) % 65536 := by
  have h1 := g.sz
  have h3 := g.AQ
  have h4 := g.QN
  unfold ixE
  refine numE_put (cs := bs) (by show _ < 65536; omega) (by rw [brT_len g hb]; omega) fun i hi => ?_
  rw [brT_get g hb, if_pos (by omega), Nat.add_sub_cancel_left]
theorem brT_ent (g : TxG A n Q bz N LT) (hb : bs.length = N) (hh : h < n) : entE (brT bs A n k h) A n k = (h, 0) := by
  have h1 := g.slot k
  have h3 := g.AQ
  have h4 := g.QN
  have h5 := g.n2
  have l1 := leB_len h 4
  have l2 := leB_len 0 4
  unfold entE
  refine Prod.ext ?_ ?_
  · refine numE_put (cs := bs) (by show _ < 4294967296; omega) (by rw [brT_len g hb]; omega) fun i hi => ?_
    rw [brT_get g hb, if_neg (by omega), if_pos (by omega), Nat.add_sub_cancel_left, List.getElem?_append_left (by omega)]
  · refine numE_put (cs := bs) (by show 0 < 4294967296; omega) (by rw [brT_len g hb]; omega) fun i hi => ?_
    rw [brT_get g hb, if_neg (by omega), if_pos (by omega), show slotE A n k + 4 + i - slotE A n k = 4 + i by omega, List.getElem?_append_right (by omega), l1, Nat.add_sub_cancel_left]
end
/-- Send, with one chain under way that was used. -/
theorem send_one_ring {A n Q bz N : Nat} {LT : List Bool} {f bs : List UInt8} {nx ls z : Nat} {wh : List UInt8} {lo e : Nat} {bs' : List UInt8} {X X' : XC} {tk' : List Bool} {nx' ls' : Nat} {br' : Bool} {wh' : List UInt8} {lo' : Nat} {da ba : Option Addr} {dk bk : Nat} (g : TxG A n Q bz N LT) (hb : bs.length = N) (h1 : 14 ≤ f.length) (h2 : 12 + f.length ≤ bz) (hz : bz ≤ 1526) (hX : X = [(0, ⟨[0], [⟨Q, z, false⟩], da, dk, ba, bk⟩)]) (i : TxI A n N X ((List.replicate n false).set 0 true) nx ls) (hix : ixE bs A n = (ls + 1) % 65536) (hen : entE bs A n ls = (0, 0)) (h0 : 0 < wh.length) (hw : gt wh 0 = 1)
    (h : SendP A Q bz LT f bs X ((List.replicate n false).set 0 true) nx ls false wh lo e bs' X' tk' nx' ls' br' wh' lo') : e = 0 ∧ nx' = (nx + 1) % 65536 ∧ tk' = (List.replicate n false).set 0 true ∧ ls' = (ls + 1) % 65536 ∧ br' = false ∧ wh' = wh ∧ lo' = lo ∧ Sent A n Q bz N LT f bs nx bs' X' := by
  have hls := i.ok.ls
  have htl : ((List.replicate n false).set 0 true).length = n := by rw [List.length_set, List.length_replicate]
  have hne : ixE bs A n ≠ ls := by rw [hix]; omega
  have hen1 : (numE bs (slotE A n ls) 4).1 = 0 := congrArg Prod.fst hen
  have hen2 : (numE bs (slotE A n ls + 4) 4).1 = 0 := congrArg Prod.snd hen
  have hat : atJ X 0 = some ⟨[0], [⟨Q, z, false⟩], da, dk, ba, bk⟩ := by rw [hX]; rfl
  have hno : ∀ {hd sz e : Nat} {X2 : XC} {tk2 : List Bool} {ls2 : Nat} {br2 : Bool} {lt2 : List Bool}, PollP bs LT A X ((List.replicate n false).set 0 true) ls false hd sz false e X2 tk2 ls2 br2 lt2 → False := fun hp => by
    cases hp with
    | dead h => cases h
    | none _ h => rw [htl] at h; exact hne h
    | breaks _ _ h =>
      rw [htl, hen1, hen2, hix] at h
      rcases h with h | h | h | ⟨c, _, h⟩
      · rw [hX] at h
        simp at h
        omega
      · rw [hat] at h; cases h
      · omega
      · omega
  have hset : ((List.replicate n false).set 0 true).set 0 false = List.replicate n false := by
    rw [List.set_set]
    apply List.ext_getElem?
    intro j
    rw [List.getElem?_set]
    have := g.n0
    by_cases hj : 0 = j
    · rw [if_pos hj, if_pos (by simp; omega), ← hj, rep_get this]
    · rw [if_neg hj]
  have hstep : ∀ {hd sz e e2 : Nat} {X2 : XC} {tk2 : List Bool} {ls2 : Nat} {br2 : Bool} {lt2 : List Bool} {wh2 : List UInt8}, PollP bs LT A X ((List.replicate n false).set 0 true) ls false hd sz true e X2 tk2 ls2 br2 lt2 → PutP Q bz wh ((atJ (MX X) hd).getD 0) e2 wh2 → X2 = [] ∧ tk2 = List.replicate n false ∧ ls2 = (ls + 1) % 65536 ∧ wh2 = wh.set 0 0 := fun hp hq => by
    cases hp with
    | done c _ _ h3 h4 _ =>
      rw [htl] at h4 hq ⊢
      rw [hen1] at h4 hq ⊢
      rw [hat] at h4
      cases h4
      refine ⟨by rw [hX]; rfl, hset, rfl, ?_⟩
      have := hq.ok 0 h0 (by rw [MX_at, hat]; show Q = _; omega) hw
      exact this.2
  have hts : ∀ {X1 : XC} {tk1 : List Bool} {ls1 : Nat} {wh1 : List UInt8}, TxT bs LT A Q bz false X ((List.replicate n false).set 0 true) ls wh X1 tk1 ls1 wh1 → (X1 = X ∧ tk1 = (List.replicate n false).set 0 true ∧ ls1 = ls ∧ wh1 = wh) ∨ (X1 = [] ∧ tk1 = List.replicate n false ∧ ls1 = (ls + 1) % 65536 ∧ wh1 = wh.set 0 0) := fun ht => by
    induction ht with
    | refl => exact .inl ⟨rfl, rfl, rfl, rfl⟩
    | step _ hp hq ih =>
      rcases ih with ⟨e1, e2, e3, e4⟩ | ⟨e1, e2, e3, e4⟩
      · rw [e1, e2, e3] at hp
        rw [e1, e4] at hq
        exact .inr (hstep hp hq)
      · rw [e1] at hp
        cases hp with
        | done c _ _ _ hat => exact absurd hat (by simp [atJ])
  have hlen0 : 0 < (wh.set 0 0).length := by rw [List.length_set]; exact h0
  have hw0 : gt (wh.set 0 0) 0 = 0 := by rw [gt_set h0, if_pos rfl]
  have hww : (wh.set 0 0).set 0 1 = wh := by
    rw [List.set_set]
    apply List.ext_getElem?
    intro j
    rw [List.getElem?_set]
    by_cases hj : 0 = j
    · rw [if_pos hj, if_pos h0, ← hj, gt_get h0, hw]
    · rw [if_neg hj]
  have i0 : TxI A n N [] (List.replicate n false) nx ((ls + 1) % 65536) := by
    have h3 := rg0 (at_ := A) (N := N) (n := n) g.n0 (by have := g.n2; omega) i.ok.a i.ok.N
    exact ⟨⟨h3.n0, h3.n1, h3.a, h3.N, i.ok.nx, Nat.mod_lt _ (by omega), h3.ch, h3.hd, h3.nd, h3.tk1, h3.cnt⟩, List.length_replicate, fun y hy => absurd hy List.not_mem_nil⟩
  have key : ∀ {e : Nat} {bs' : List UInt8} {X' : XC} {tk' : List Bool} {nx' ls' : Nat} {br' : Bool} {wh' : List UInt8} {lo' : Nat}, SendP A Q bz LT f bs [] (List.replicate n false) nx ((ls + 1) % 65536) false (wh.set 0 0) lo e bs' X' tk' nx' ls' br' wh' lo' → e = 0 ∧ nx' = (nx + 1) % 65536 ∧ tk' = (List.replicate n false).set 0 true ∧ ls' = (ls + 1) % 65536 ∧ br' = false ∧ wh' = wh ∧ lo' = lo ∧ Sent A n Q bz N LT f bs nx bs' X' := fun hs => by
    obtain ⟨a1, a2, a3, a4, a5, a6, a7, a8⟩ := send_nil_ring g hb h1 h2 hz i0 hix hlen0 hw0 hs
    exact ⟨a1, a2, a3, a4, a5, a6.trans hww, a7, a8⟩
  cases h with
  | short h => omega
  | long _ h => omega
  | poll ht hp he =>
    rcases hts ht with ⟨rfl, rfl, rfl, rfl⟩ | ⟨rfl, rfl, rfl, rfl⟩
    · exact (hno hp).elim
    · exact key (.poll .refl hp he)
  | full ht hp hg he =>
    rcases hts ht with ⟨rfl, rfl, rfl, rfl⟩ | ⟨rfl, rfl, rfl, rfl⟩
    · exact (hno hp).elim
    · exact key (.full .refl hp hg he)
  | bad ht hp hg ha he hq =>
    rcases hts ht with ⟨rfl, rfl, rfl, rfl⟩ | ⟨rfl, rfl, rfl, rfl⟩
    · exact (hno hp).elim
    · exact key (.bad .refl hp hg ha he hq)
  | ok h3 h4 ht hp hg ha =>
    rcases hts ht with ⟨rfl, rfl, rfl, rfl⟩ | ⟨rfl, rfl, rfl, rfl⟩
    · exact (hno hp).elim
    · exact key (.ok h3 h4 .refl hp hg ha)
instance (priority := 1500) {a b c : Value} : ElV [a, b, c] (0 * (2 + 1) + 0) a True := ⟨fun _ => rfl⟩
instance (priority := 1500) {a b c : Value} : ElV [a, b, c] (0 * (2 + 1) + 1) b True := ⟨fun _ => rfl⟩

end Go.Proofs.Ytimaecgdahmmdaa


namespace Go.Proofs.Ytimaecgdahmmdaa
open Go Pw
set_option maxRecDepth 20000
set_option maxHeartbeats 4000000
set_option synthInstance.maxHeartbeats 400000
set_option synthInstance.maxSize 4000
set_option maxHeartbeats 8000000
attribute [local irreducible] writeE putB partN sizeE

section
variable {P : Program} {r : Rd} {c : Ctx} {ns : List Nat} {ops : Array Oper} {Q : Exit → Env → Rd → World → Prop} {K : List Assn} {s : Sci} {L : List Assn} {E : Env}
theorem atT9US (h : US P r c ns ops Q K s L E) : US P r c ns ops Q K s L E := h
theorem atT9UN {i : Nat} (h : UN P r c ns ops Q K i s L E) : UN P r c ns ops Q K i s L E := h
theorem atT9USK (h : USK P r c ns ops Q K s L E) : USK P r c ns ops Q K s L E := h
end
theorem brings_tx (p r A n Q bz N nx ls k h nc a z : Nat) (br : Bool) (X : XC) (tk : List Bool) (bs : List UInt8) (LT : List Bool) (ch : Ch) (g : TxG A n Q bz N LT) (htl : tk.length = n) (hA : A ≤ 1048576) (hb : bs.length = N) (hX : atJ X h = some ch) (hcl : ch.l = [⟨a, z, false⟩]) (hh : h < 65536) (hk : k < 65536) :
    Sat Try.prog 12 [.pointer (some ⟨p, 0, none⟩), .pointer (some ⟨r, 0, none⟩), .int .i64 (n : Nat), .pointer (some ⟨nc, 0, none⟩), .int .u16 (h : Nat), str []] [rgA r p A X tk nx ls br, memA p bs LT, row 38 nc [.int .u16 (k : Nat)]] (fun u L' => u = .bool true ∧ L' = [rgA r p A X tk nx ls br, memA p (brT bs A n k h) LT, row 38 nc [.int .u16 (((k + 1) % 65536 : Nat) : Int)]]) := by
  have hAQ := g.AQ
  have hQN := g.QN
  have hN2 := g.N2
  have hn2 := g.n2
  have hn0 := g.n0
  have hplt : partN tk.length = partN n := by rw [htl]
  have hkm := Nat.mod_lt k hn0
  have hpl := partN_le (n := n) (by omega)
  have w2 := tw2 (k := k) g hb (s8 := leB h 4 ++ leB 0 4) (by rw [List.length_append, leB_len, leB_len])
  have hs2 := g.slot k
  have hl2 : (putB bs (A + partN n + 4 + 8 * (k % n)) (leB h 4 ++ leB 0 4)).length = N := by
    unfold slotE at hs2
    rw [putB_len (by rw [List.length_append, leB_len, leB_len]; omega), hb]
  have w3 := tw3 g hl2 (s2 := leB ((k + 1) % 65536) 2) (leB_len _ _)
  have hg2 : True := trivial
  have hg6 : True := trivial
  have hg9 : True := trivial
  have hg10 : True := trivial
  have hg11 : True := trivial
  all_goals
    refine Sat.enter Try.func12 rfl Try.ntmps12 rfl (fun c R => ?_)
    try simp only [List.cons_append, List.nil_append]
    repeat' (first
      | (refine ⟨ch, ⟨hX, by rw [hcl]; simp, by rw [hcl]; simp⟩, ?_⟩)
      | (refine T.atR 2 ?_; clear hg2; rw [hcl]; simp only [List.length_cons, List.length_nil, Nat.zero_add, List.flatMap_cons, List.flatMap_nil, List.append_nil, bufV])
      | (refine T.atR 10 ?_; clear hg10; rw [hplt, w2]; dsimp only)
      | (refine finAt ?_; rw [hplt, w3]; exact Fini.of ⟨rfl, rfl⟩ (by repeat first | exact Imp.refl _ | (apply Imp.pull; focus ((repeat first | exact Del.head _ _ | apply Del.tail); done)) | apply Imp.drop))
      | (rw [List.length_append, leB_len, leB_len]; omega)
      | (rw [leB_len]; omega)
      | (rw [leB_len, leB_len]; omega)
      | refine T.pk 9 [2, 15, 17, 19] (.p 0 (.p 1 (.p 4 (.p 5 (.p 8 (.p 13 (.p 14 (.p 16 (.g 6 (.p 7 (.p 9 (.p 10 (.p 11 (.n 2 (.p 3 (.p 12 (.n 15 (.n 17 (.p 18 (.n 19 (.p 20 .fin))))))))))))))))))))) ?_
      | refine T.pl 11 [5, 11, 12] (.p 0 (.p 1 (.p 2 (.p 3 (.p 4 (.p 7 (.p 8 (.b2 5 (.p 6 (.d 9 (.p 10 (.n 11 (.n 12 (.p 13 (.p 14 (.p 15 .fin)))))))) 9 (.p 10 (.n 5 (.p 6 (.n 11 (.n 12 (.p 13 (.p 14 (.p 15 .fin)))))))))))))))) ?_
      | refine And.intro (fun hc => ?_) (fun hc => ?_)
      | refine And.intro ?_ ?_
      | intro b
      | ((first | refine atT9US ?_ | refine atT9USK ?_ | refine atT9UN ?_); refine stk ?_)
      | refine stp ?_
      | refine TQ.finC ?_
      | refine TQ.finC2 ?_
      | refine TQ.finC3 ?_
      | refine ⟨fun hc => ?_, fun hc => ?_⟩
      | refine Ei.f ?_
      | refine ⟨?_, ?_⟩
      | intro b
      | exact absurd rfl hc
      | exact absurd hc (by decide)
      | omega
      | (dsimp only; omega)
      | fail)
theorem same_step {tt F : List (List UInt8)} {i : Nat} (h : tt.take i = F.take i) (h1 : i < tt.length) (h2 : i < F.length) (e : gt tt i = gt F i) : tt.take (i + 1) = F.take (i + 1) := by rw [take_gt h1, take_gt h2, h, e]
theorem same_ne {tt F : List (List UInt8)} {i : Nat} (e : gt tt i ≠ gt F i) : tt ≠ F := fun h => e (by rw [h])
abbrev strV (s : List UInt8) : List Value := [str s]
instance : FLen strV 1 := ⟨fun _ => rfl⟩
instance : FLen strV (0 + 1) := ⟨fun _ => rfl⟩
instance (priority := 1200) {l : List (List UInt8)} {i : Nat} : ElV (l.flatMap strV) (i * (0 + 1)) (str (gt l i)) (i < l.length) := ⟨fun h => by
  have := flat_elem (f := strV) (k := 1) (fun _ => rfl) (gt_get h) 0 _ rfl
  exact this⟩
theorem vB {p : Prop} [Decidable p] {b : Bool} (h : b = true ↔ p) : Value.bool b = .bool (decide p) := by
  congr 1
  rw [Bool.eq_iff_iff, h, decide_eq_true_iff]
theorem same_spec (h : Array Obj) (tt F : List (List UInt8)) (a b : Option Addr) (k j : Nat) [hI : InpD h b (0 + 1) F.length j (F.flatMap strV)] [hIP : InpP b (0 + 1) F.length j] (hT : tt.length < 4611686018427387904) :
    Sat Try.prog 15 [.slice a tt.length k, .slice b F.length j] [Pw.sl 9 (0 + 1) (.slice a tt.length k) tt.length (tt.map str), old h] (fun u L' => u = .bool (decide (tt = F)) ∧ L' = [Pw.sl 9 (0 + 1) (.slice a tt.length k) tt.length (tt.map str), old h]) := by
  have hg8 : True := trivial
  all_goals
    refine Sat.enter Try.func15 rfl Try.ntmps15 rfl (fun c R => ?_)
    try simp only [List.cons_append, List.nil_append]
    repeat' (first
      | (refine T.atB 0 ?_; refine T.lpa 0 [(0, _), (1, _)] (0 : Nat) (fun i => [(5, .int .i64 (i : Nat))]) (fun _ => []) (fun i => i ≤ tt.length ∧ tt.take i = F.take i) (fun i => tt.length - i) ⟨Nat.zero_le _, rfl⟩ ?_; rintro i g ⟨hi, hti⟩; simp only [List.cons_append, List.nil_append, appR])
      | (refine TQ.atL ?_; refine TQ.rd (i + 1 : Nat) rfl (by repeat first | exact trivial | refine ⟨rfl, ?_⟩) ⟨by omega, same_step hti (by omega) (by omega) (by first | assumption | (apply Decidable.byContradiction; intro h9; contradiction))⟩ (by omega) (Ent.imp (by repeat first | exact Imp.refl _ | (apply Imp.pull; focus ((repeat first | exact Del.head _ _ | apply Del.tail); done)) | apply Imp.drop)))
      | (refine T.atR 8 ?_; clear hg8; have hie : i = tt.length := (by omega); have hTF : tt = F := (by rw [hie, List.take_length] at hti; rw [hti]; exact List.take_of_length_le (by omega)))
      | (refine finAt ?_; exact Fini.of ⟨vB (p := tt = F) ⟨fun _ => hTF, fun _ => rfl⟩, rfl⟩ (by repeat first | exact Imp.refl _ | (apply Imp.pull; focus ((repeat first | exact Del.head _ _ | apply Del.tail); done)) | apply Imp.drop))
      | (refine finAt ?_; exact Fini.of ⟨vB (p := tt = F) ⟨fun h => Bool.noConfusion h, fun h => absurd (congrArg List.length h) (by assumption)⟩, rfl⟩ (by repeat first | exact Imp.refl _ | (apply Imp.pull; focus ((repeat first | exact Del.head _ _ | apply Del.tail); done)) | apply Imp.drop))
      | (refine finAt ?_; exact Fini.of ⟨vB (p := tt = F) ⟨fun h => Bool.noConfusion h, fun h => absurd (by rw [h]) (by assumption : ¬ gt tt i = gt F i)⟩, rfl⟩ (by repeat first | exact Imp.refl _ | (apply Imp.pull; focus ((repeat first | exact Del.head _ _ | apply Del.tail); done)) | apply Imp.drop))
      | refine T.pl 6 [] (.p 0 (.p 1 (.p 4 (.p 5 (.d 2 (.d 3 (.d 6 (.d 7 (.p 8 .fin))))))))) ?_
      | refine And.intro (fun hc => ?_) (fun hc => ?_)
      | refine And.intro ?_ ?_
      | intro b
      | refine stp ?_
      | refine TQ.finC ?_
      | refine TQ.finC2 ?_
      | refine TQ.finC3 ?_
      | refine ⟨fun hc => ?_, fun hc => ?_⟩
      | refine Ei.f ?_
      | refine ⟨?_, ?_⟩
      | intro b
      | exact absurd rfl hc
      | exact absurd hc (by decide)
      | omega
      | (dsimp only; omega)
      | fail)

end Go.Proofs.Ytimaecgdahmmdaa


namespace Go.Proofs.Ytimaecgdahmmdaa
open Go Pw
set_option maxRecDepth 20000
set_option maxHeartbeats 4000000
/-! VnetBrings (plain law). -/
theorem layB : Lay 16 4 144 4 272 128 1296 := ⟨by decide, by decide, by decide, by decide, by decide +kernel, by decide +kernel, by decide, by decide, by decide +kernel, by decide +kernel, by decide, by decide, by decide, by decide⟩
theorem nszB : nszN 4 4 128 = 1280 := by decide +kernel
abbrev hdB : List UInt8 := List.replicate 10 0 ++ [1, 0]
theorem frm_hd {f : List UInt8} (h1 : 14 ≤ f.length) (h2 : f.length ≤ 116) : frmE (hdB ++ f) = (f, true) := by
  have hl : (hdB ++ f).length = 12 + f.length := by rw [List.length_append]; rfl
  have hm : min (hdB ++ f).length 12 = 12 := by omega
  have hd : (hdB ++ f).drop 12 = f := by
    rw [List.drop_append_of_le_length (by decide)]; rfl
  have ht : (hdB ++ f).take 12 = hdB := by
    rw [List.take_append_of_le_length (by decide)]; rfl
  unfold frmE
  rw [hm, hd, ht, if_neg (by omega)]
  rfl
structure BI (fs : List (List UInt8)) (i : Nat) (X : XC) (tk : List Bool) (nx ls : Nat) (bs : List UInt8) (W : List Nat) (T : List (List UInt8)) (D : List (Nat × List UInt8)) : Prop where
  rx : RxI 16 4 272 128 1296 X tk nx ls
  bl : bs.length = 1296
  ix : ixE bs 16 4 = i
  l1 : ls + D.length = i
  dl : D.length + W.length = 4
  wn : (W ++ D.map (·.1)).Nodup
  wl : ∀ h ∈ W ++ D.map (·.1), h < 4
  en : ∀ j, j < D.length → entE bs 16 4 (ls + j) = ((gt D j).1, 12 + (gt D j).2.length) ∧ frO bs 272 128 ((gt D j).1, 12 + (gt D j).2.length) = ((gt D j).2, true) ∧ 12 + (gt D j).2.length ≤ 128
  fl : T ++ D.map (·.2) = fs.take i
  z : ∀ k, 144 ≤ k → k < 272 → bs[k]? = some 0
theorem gt_appl {α : Type} [Inhabited α] {l : List α} {x : α} {j : Nat} (h : j < l.length) : gt (l ++ [x]) j = gt l j := by
  unfold gt
  rw [List.getD_eq_getElem?_getD, List.getD_eq_getElem?_getD, List.getElem?_append_left h]
theorem gt_appr {α : Type} [Inhabited α] {l : List α} {x : α} : gt (l ++ [x]) l.length = x := by
  unfold gt
  rw [List.getD_eq_getElem?_getD, List.getElem?_append_right (Nat.le_refl _), Nat.sub_self]; rfl
theorem erase_perm {W : List Nat} {q : Nat} (h : q < W.length) : W.Perm (gt W q :: W.eraseIdx q) := by
  have e : W = W.take q ++ gt W q :: W.drop (q + 1) := by
    conv => lhs; rw [← List.take_append_drop q W, drop_gt h]
  have e2 : W.eraseIdx q = W.take q ++ W.drop (q + 1) := List.eraseIdx_eq_take_drop_succ ..
  rw [e2]
  conv => lhs; rw [e]
  exact List.perm_middle
instance : Inhabited (Nat × List UInt8) := ⟨(0, [])⟩
theorem bi_step {fs : List (List UInt8)} {i : Nat} {X : XC} {tk : List Bool} {nx ls : Nat} {bs : List UInt8} {W : List Nat} {T : List (List UInt8)} {D : List (Nat × List UInt8)} {q : Nat} (b : BI fs i X tk nx ls bs W T D) (hq : q < W.length) (hi : i < fs.length) (h60 : i < 1000) (h1 : 14 ≤ (gt fs i).length) (h2 : (gt fs i).length ≤ 116) : BI fs (i + 1) X tk nx ls (brB bs 16 4 i (gt W q) (272 + 128 * gt W q) (hdB ++ gt fs i)) (W.eraseIdx q) T (D ++ [(gt W q, gt fs i)]) := by
  have g := LTn_geo layB
  have hlen : (hdB ++ gt fs i).length = 12 + (gt fs i).length := by rw [List.length_append]; rfl
  have hs : (hdB ++ gt fs i).length ≤ 128 := by omega
  have hh : gt W q < 4 := b.wl _ (List.mem_append_left _ (gt_mem hq))
  have hl1 := b.l1
  have hdl := b.dl
  have hp := erase_perm hq
  have hnd : (W.eraseIdx q ++ (D ++ [(gt W q, gt fs i)]).map (·.1)).Perm (W ++ D.map (·.1)) := by
    rw [List.map_append, ← List.append_assoc]
    refine List.perm_append_comm.trans ?_
    show (gt W q :: (W.eraseIdx q ++ D.map (·.1))).Perm _
    rw [← List.cons_append]
    exact (hp.symm).append_right _
  have hne : ∀ j, j < D.length → (gt D j).1 ≠ gt W q := fun j hj e => by
    have h3 := b.wn
    rw [List.nodup_append] at h3
    exact h3.2.2 _ (gt_mem hq) _ (List.mem_map.2 ⟨gt D j, gt_mem hj, rfl⟩) e.symm
  refine ⟨b.rx, br_len g b.bl hh hs, by rw [br_ix g b.bl hh hs]; omega, by rw [List.length_append]; simp; omega, ?_, hnd.nodup_iff.2 b.wn, fun h hm => b.wl h (hnd.mem_iff.1 hm), fun j hj => ?_, ?_, fun k h3 h4 => ?_⟩
  · rw [List.length_append, List.length_eraseIdx_of_lt hq]; simp; omega
  · rw [List.length_append] at hj
    simp at hj
    by_cases hjl : j < D.length
    · obtain ⟨e1, e2, e3⟩ := b.en j hjl
      rw [gt_appl hjl, br_ent_ne g b.bl hh hs (by omega), br_fr_ne g b.bl hh hs (b.wl _ (List.mem_append_right _ (List.mem_map.2 ⟨gt D j, gt_mem hjl, rfl⟩))) e3 (hne j hjl)]
      exact ⟨e1, e2, e3⟩
    · have hje : j = D.length := by omega
      subst hje
      rw [gt_appr, hl1]
      dsimp only
      rw [← hlen, br_ent g b.bl hh hs, br_fr g b.bl hh hs, frm_hd h1 h2]
      exact ⟨rfl, rfl, hs⟩
  · rw [List.map_append, ← List.append_assoc, b.fl, take_gt hi]; rfl
  · rw [br_out g b.bl hh hs (.inr ⟨by rw [sz4]; omega, .inl (by omega)⟩)]
    exact b.z k h3 h4
theorem frs_D {fs : List (List UInt8)} {i : Nat} {X : XC} {tk : List Bool} {nx ls : Nat} {bs : List UInt8} {W : List Nat} {T : List (List UInt8)} {D : List (Nat × List UInt8)} (b : BI fs i X tk nx ls bs W T D) (h60 : i < 1000) : ∀ k, k ≤ D.length → frsE bs 16 4 272 128 ls k = (D.map (·.2)).take k ∧ losE bs 16 4 272 128 ls k = 0
  | 0, _ => ⟨by simp [frsE], rfl⟩
  | k + 1, hk => by
    obtain ⟨h1, h2⟩ := frs_D b h60 k (by omega)
    obtain ⟨e1, e2, _⟩ := b.en k (by omega)
    have hl1 := b.l1
    have hm : (ls + k) % 65536 = ls + k := Nat.mod_eq_of_lt (by omega)
    refine ⟨?_, ?_⟩
    · show frsE bs 16 4 272 128 ls k ++ _ = _
      rw [hm, e1, e2, h1, if_pos rfl, ← List.map_take, ← List.map_take, take_gt (show k < D.length by omega), List.map_append]; rfl
    · show losE bs 16 4 272 128 ls k + _ = 0
      rw [hm, e1, e2, h2, if_pos rfl]
structure BR (fs : List (List UInt8)) (i : Nat) (T : List (List UInt8)) (D : List (Nat × List UInt8)) (lo e : Nat) (br' : Bool) (X' : XC) (tk' : List Bool) (nx' ls' : Nat) (bs' : List UInt8) (lo' : Nat) (fr : List (List UInt8)) : Prop where
  e0 : e = 0
  b0 : br' = false
  l0 : lo' = lo
  f1 : fr = D.map (·.2)
  bi : BI fs i X' tk' nx' ls' bs' [0, 1, 2, 3] (T ++ fr) []
theorem bi_recv {fs : List (List UInt8)} {i : Nat} {X X' : XC} {tk tk' : List Bool} {nx nx' ls ls' lo lo' k e : Nat} {bs bs' : List UInt8} {W : List Nat} {T fr : List (List UInt8)} {D : List (Nat × List UInt8)} {br' : Bool} (b : BI fs i X tk nx ls bs W T D) (h60 : i < 1000) (h : RecvP 16 4 272 128 1296 (LTn 16 4 144 4 272 128 1296 4) bs ls false lo k e X' tk' nx' ls' br' bs' lo' fr) : BR fs i T D lo e br' X' tk' nx' ls' bs' lo' fr := by
  have g := LTn_geo layB
  have hl1 := b.l1
  have hdl := b.dl
  have hdst : dstE bs 16 4 ls = D.length := by unfold dstE; rw [b.ix]; omega
  have he : e = 0 := h.good rfl (by omega) fun j hj => by
    rw [hdst] at hj
    obtain ⟨e1, _, e3⟩ := b.en j hj
    rw [Nat.mod_eq_of_lt (by omega), e1]
    exact ⟨b.wl _ (List.mem_append_right _ (List.mem_map.2 ⟨gt D j, gt_mem hj, rfl⟩)), e3⟩
  have hk : k = D.length ∧ br' = false := by
    rcases h.fin with h4 | h4
    · omega
    · exact ⟨h4.2.2.trans hdst, h4.2.1⟩
  obtain ⟨rfl, hbr⟩ := hk
  obtain ⟨f1, f2⟩ := frs_D b h60 D.length (Nat.le_refl _)
  have hfr : fr = D.map (·.2) := by rw [h.rv.fr, f1, List.take_of_length_le (by rw [List.length_map]; omega)]
  have hls' : ls' = i := by rw [h.rv.ls]; omega
  refine ⟨he, hbr, by rw [h.rv.lo, f2]; rfl, hfr, ⟨h.rv.rx, h.rv.bl, (ix_keep g h.rv.kp).trans b.ix, by rw [hls']; rfl, rfl, by decide, by decide, fun j hj => absurd hj (Nat.not_lt_zero _), ?_, fun k h3 h4 => ?_⟩⟩
  · rw [hfr, List.map_nil, List.append_nil]; exact b.fl
  · rw [h.rv.out k (.inr (by rw [pt4]; omega))]
    exact b.z k h3 h4
theorem bi_start {fs : List (List UInt8)} {X : XC} {tk : List Bool} {nx : Nat} {bs : List UInt8} (h : NewP 16 4 144 4 272 128 1296 X tk nx bs) : BI fs 0 X tk nx 0 bs [0, 1, 2, 3] [] [] := by
  refine ⟨h.rx, h.bl, zero_ix h.bl (by rw [pt4]; decide) (fun j hj => ?_), rfl, rfl, by decide, by decide, fun j hj => absurd hj (Nat.not_lt_zero _), by simp, fun k h3 h4 => ?_⟩
  · rw [h.z _ (.inr (by omega)), rep_get (by rw [pt4]; omega)]
  · rw [h.z _ (.inr (by rw [pt4]; omega)), rep_get (by omega)]
/-! What is sent -/
structure BT (j : Nat) (X : XC) (tk : List Bool) (nx ls : Nat) (bs wh : List UInt8) : Prop where
  tx : TxI 144 4 1296 X tk nx ls
  bl : bs.length = 1296
  n1 : nx = j
  ix : ixE bs 144 4 = j
  wl : wh.length = 4
  c : (j = 0 ∧ X = [] ∧ tk = List.replicate 4 false ∧ ls = 0 ∧ gt wh 0 = 0) ∨ (ls + 1 = j ∧ (∃ z da dk ba bk, X = [(0, (⟨[0], [⟨272 + 4 * 128, z, false⟩], da, dk, ba, bk⟩ : Ch))]) ∧ tk = (List.replicate 4 false).set 0 true ∧ entE bs 144 4 ls = (0, 0) ∧ gt wh 0 = 1)
structure BS (j : Nat) (f bs : List UInt8) (lo e : Nat) (bs' : List UInt8) (X' : XC) (tk' : List Bool) (nx' ls' : Nat) (br' : Bool) (wh' : List UInt8) (lo' : Nat) : Prop where
  e0 : e = 0
  b0 : br' = false
  l0 : lo' = lo
  n1 : nx' = j + 1
  l1 : ls' = j
  t1 : tk' = (List.replicate 4 false).set 0 true
  wl : wh'.length = 4
  w0 : gt wh' 0 = 1
  tx : TxI 144 4 1296 X' tk' nx' ls'
  s : Sent 144 4 (272 + 4 * 128) 128 1296 (LTn 16 4 144 4 272 128 1296 4) f bs j bs' X'
theorem bt_send {j nx ls lo e nx' ls' lo' : Nat} {f bs bs' : List UInt8} {X X' : XC} {tk tk' : List Bool} {wh wh' : List UInt8} {br' : Bool} (b : BT j X tk nx ls bs wh) (hj : j < 1000) (h1 : 14 ≤ f.length) (h2 : f.length ≤ 116) (h : SendP 144 (272 + 4 * 128) 128 (LTn 16 4 144 4 272 128 1296 4) f bs X tk nx ls false wh lo e bs' X' tk' nx' ls' br' wh' lo') : BS j f bs lo e bs' X' tk' nx' ls' br' wh' lo' := by
  have g := layB.txg
  have hwl := b.wl
  have hw := send_weak b.tx b.bl (by omega) (by rw [hwl]; decide) h
  have hn1 := b.n1
  subst hn1
  rcases b.c with ⟨c1, c2, c3, c4, c5⟩ | ⟨c1, ⟨z, da, dk, ba, bk, c2⟩, c3, c4, c5⟩
  · subst c2
    subst c3
    subst c4
    have hix := b.ix
    rw [c1] at hix
    obtain ⟨a1, a2, a3, a4, a5, a6, a7, a8⟩ := send_nil_ring g b.bl h1 (by omega) (by decide) b.tx hix (by omega) c5 h
    refine ⟨a1, a5, a7, by rw [a2]; omega, by rw [a4, c1], a3, by rw [a6, List.length_set]; exact hwl, by rw [a6, gt_set (by omega), if_pos rfl], hw.tx, a8⟩
  · subst c3
    have hix := b.ix
    obtain ⟨a1, a2, a3, a4, a5, a6, a7, a8⟩ := send_one_ring g b.bl h1 (by omega) (by decide) c2 b.tx (by rw [hix]; omega) c4 (by omega) c5 h
    exact ⟨a1, a5, a7, by rw [a2]; omega, by rw [a4]; omega, a3, by rw [a6]; exact hwl, by rw [a6]; exact c5, hw.tx, a8⟩
theorem bt_next {j nx' ls' lo lo' e : Nat} {f bs bs' : List UInt8} {X' : XC} {tk' : List Bool} {wh' : List UInt8} {br' : Bool} (hj : j < 1000) (s : BS j f bs lo e bs' X' tk' nx' ls' br' wh' lo') : BT (j + 1) X' tk' nx' ls' (brT bs' 144 4 j 0) wh' := by
  have g := layB.txg
  obtain ⟨da, dk, ba, bk, hx⟩ := s.s.x
  refine ⟨s.tx, brT_len g s.s.len, s.n1, by rw [brT_ix g s.s.len]; omega, s.wl, .inr ⟨by rw [s.l1], ⟨_, da, dk, ba, bk, hx⟩, s.t1, ?_, s.w0⟩⟩
  rw [s.l1]
  exact brT_ent g s.s.len (by decide)
theorem bt_start {fs : List (List UInt8)} {i : Nat} {X : XC} {tk : List Bool} {nx ls : Nat} {bs : List UInt8} {W : List Nat} {T : List (List UInt8)} {D : List (Nat × List UInt8)} (b : BI fs i X tk nx ls bs W T D) : BT 0 [] (List.replicate 4 false) 0 0 bs (List.replicate 4 0) :=
  ⟨tx0 (by decide) (by decide) (by decide) (by decide), b.bl, rfl, zero_ix b.bl (by rw [pt4]; decide) (fun k hk => by rw [pt4]; exact b.z _ (by omega) (by omega)), rfl, .inl ⟨rfl, rfl, rfl, rfl, by decide⟩⟩

end Go.Proofs.Ytimaecgdahmmdaa


namespace Go.Proofs.Ytimaecgdahmmdaa
open Go Pw
set_option maxRecDepth 20000
set_option maxHeartbeats 4000000
set_option synthInstance.maxHeartbeats 400000
set_option synthInstance.maxSize 4000
set_option maxHeartbeats 16000000

section
variable {P : Program} {r : Rd} {c : Ctx} {ns : List Nat} {ops : Array Oper} {Q : Exit → Env → Rd → World → Prop} {K : List Assn} {s : Sci} {L : List Assn} {E : Env}
theorem atB9US (h : US P r c ns ops Q K s L E) : US P r c ns ops Q K s L E := h
theorem atB9UN {i : Nat} (h : UN P r c ns ops Q K i s L E) : UN P r c ns ops Q K i s L E := h
theorem atB9USK (h : USK P r c ns ops Q K s L E) : USK P r c ns ops Q K s L E := h
end
theorem _root_.Pw.T.slP {P : Program} {r : Rd} {c : Ctx} {L R : List Assn} {Q : Exit → Env → Rd → World → Prop} {E : Env} {code : Code} {e : TypeId} {sz n k : Nat} {a : Option Addr} {xs : List Value} (h : InpP a sz n k → T P r c L code Q E) (hd : Del (Pw.sl e sz (.slice a n k) n xs) L R) : T P r c L code Q E := by
  unfold T at h ⊢
  intro w hw
  refine h ⟨fun hn => ?_⟩ w hw
  obtain ⟨e1, e2, e3, f1, f2, hdj, hf1, hf2, hsl, hl⟩ := hw.perm hd.perm
  rcases hsl with ⟨hv, h0, hxs⟩ | ⟨b, k, rest, hv, hxl, hrl, hrow⟩
  · omega
  · simp only [Value.slice.injEq] at hv
    exact ⟨b, 0, hv.1⟩
theorem _root_.Pw.T.atKQ9 {P : Program} {r : Rd} {c : Ctx} {L : List Assn} {Q : Exit → Env → Rd → World → Prop} {E : Env} (cd : Operand) {x1 x2 : Code} (h : T P r c L (.cond cd x1 x2) Q E) : T P r c L (.cond cd x1 x2) Q E := h
instance (priority := 1600) {L R R1 R2 : List Assn} {p r A n nx ls k h nc : Nat} {x y z : Int} {br : Bool} {X : XC} {tk : List Bool} {bs : List UInt8} {LT : List Bool} [h1 : RgAt L r p A X tk nx ls br R1] [h2 : MemAt R1 p bs LT R2] [h3 : RowDel R2 nc 38 [.int .u16 z] R] [hx : Nn x n] [hy : Nn y h] [hz : Nn z k] : FnR Try.prog 12 [.pointer (some ⟨p, 0, none⟩), .pointer (some ⟨r, 0, none⟩), .int .i64 x, .pointer (some ⟨nc, 0, none⟩), .int .u16 y, str []] L (fun kk => ∃ Q bz N ch a zz, (TxG A n Q bz N LT ∧ tk.length = n ∧ A ≤ 1048576 ∧ bs.length = N ∧ atJ X h = some ch ∧ ch.l = [⟨a, zz, false⟩] ∧ h < 65536 ∧ k < 65536) ∧ kk (.bool true) (rgA r p A X tk nx ls br :: memA p (brT bs A n k h) LT :: row 38 nc [.int .u16 (((k + 1) % 65536 : Nat) : Int)] :: R)) :=
  ⟨fun kk hh => by
    obtain ⟨Q, bz, N, ch, a, zz, ⟨g1, g2, g3, g4, g5, g6, g7, g8⟩, h9⟩ := hh
    have h3' := h3.h
    rw [hz.h] at h3'
    exact ⟨_, R, _, by rw [hx.h, hy.h]; exact brings_tx p r A n Q bz N nx ls k h nc a zz br X tk bs LT ch g1 g2 g3 g4 g5 g6 g7 g8, .cons h1.h (.cons h2.h (.cons h3' (.nil _))), fun v L' hv => by rw [hv.1, hv.2]; exact h9⟩⟩
instance {L R R1 : List Assn} {h : Array Obj} {a b : Option Addr} {n m k j : Nat} {tt F : List (List UInt8)} [h1 : SlAt L (.slice a n k) 9 (0 + 1) n (tt.map str) R1] [ho : OldDel R1 h R] [hI : InpD h b (0 + 1) m j (F.flatMap strV)] [hIP : InpP b (0 + 1) m j] : FnR Try.prog 15 [.slice a n k, .slice b m j] L (fun kk => Vc (n = tt.length ∧ m = F.length ∧ tt.length < 4611686018427387904) (kk (.bool (decide (tt = F))) (Pw.sl 9 (0 + 1) (.slice a n k) n (tt.map str) :: old h :: R))) :=
  ⟨fun kk hh => by
    obtain ⟨⟨rfl, rfl, h4⟩, h9⟩ := hh
    exact ⟨_, R, _, same_spec h tt F a b k j h4, .cons h1.h (.cons ho.h (.nil _)), fun v L' hv => by rw [hv.1, hv.2]; exact h9⟩⟩
abbrev u8V (n : Nat) : List Value := [.int .u8 n]
instance : FLen u8V 1 := ⟨fun _ => rfl⟩
instance : FLen u8V (0 + 1) := ⟨fun _ => rfl⟩
abbrev u16L (n : Nat) : List Value := [.int .u16 n]
instance : FLen u16L 1 := ⟨fun _ => rfl⟩
instance : FLen u16L (0 + 1) := ⟨fun _ => rfl⟩
instance {n : Nat} : InvL u16L [.int .u16 ((n : Nat) : Int)] n := ⟨rfl⟩
instance {l : List Nat} {i : Nat} : ElV (l.flatMap u16L) i (.int .u16 (gt l i : Nat)) (i < l.length) := ⟨fun h => by
  have := flat_elem (f := u16L) (k := 1) (fun _ => rfl) (gt_get h) 0 _ rfl
  rw [Nat.mul_one] at this
  exact this⟩
instance (priority := 2000) {l : List Nat} {i : Nat} : ElV (l.flatMap u16L) (i * (0 + 1)) (.int .u16 (gt l i : Nat)) (i < l.length) := ⟨fun h => by
  have := flat_elem (f := u16L) (k := 1) (fun _ => rfl) (gt_get h) 0 _ rfl
  exact this⟩
theorem imp_w0 {L : List Assn} : Imp L (Pw.sl 38 (0 + 1) (.slice none ([] : List Nat).length 0) ([] : List Nat).length (([] : List Nat).flatMap u16L) :: L) := Imp.slN (Imp.refl L)
theorem imp_t0 {L : List Assn} : Imp L (Pw.sl 9 (0 + 1) (.slice none ([] : List (List UInt8)).length 0) ([] : List (List UInt8)).length (([] : List (List UInt8)).map str) :: L) := Imp.slN (Imp.refl L)
structure B6 where
  (i : Nat) (X : XC) (tk : List Bool) (nx ls : Nat) (bs : List UInt8) (W : List Nat) (wa : Option Addr) (wk : Nat) (tt : List (List UInt8)) (ta : Option Addr) (tc : Nat) (D : List (Nat × List UInt8))
structure B10 where
  (j : Nat) (X : XC) (tk : List Bool) (nx ls : Nat) (bs wh : List UInt8)
attribute [local irreducible] LTn brB brT nszN writeE numE partN sizeE
theorem brings_law (h : Array Obj) (fs ss : List (List UInt8)) (os : List Nat) (a0 a1 a2 : Option Addr) (k0 k1 k2 : Nat) [hI0 : InpD h a0 (0 + 1) fs.length k0 (fs.flatMap strV)] [hIP0 : InpP a0 (0 + 1) fs.length k0] [hI1 : InpD h a1 (0 + 1) ss.length k1 (ss.flatMap strV)] [hIP1 : InpP a1 (0 + 1) ss.length k1] [hI2 : InpD h a2 (0 + 1) os.length k2 (os.flatMap u8V)] [hIP2 : InpP a2 (0 + 1) os.length k2] (hfs : ∀ j, (gt fs j).length ≤ 140737488351232) (hss : ∀ j, (gt ss j).length ≤ 140737488351232) (hos : ∀ j, gt os j < 256) (hl0 : fs.length ≤ 140737488351232) (hl1 : ss.length ≤ 140737488351232) (hl2 : os.length ≤ 140737488351232) :
    Sat Try.prog 3 [.slice a0 fs.length k0, .slice a1 ss.length k1, .slice a2 os.length k2] [old h] (fun u L' => u = .bool true ∧ L' = [old h]) := by
  have hn0 := nszB
  have hg8 : True := trivial
  have hg14 : True := trivial
  have hg16 : True := trivial
  have hg17 : True := trivial
  have hg18 : True := trivial
  have hg21 : True := trivial
  have hg24 : True := trivial
  have hg29 : True := trivial
  have hg36 : True := trivial
  have hg38 : True := trivial
  have hg39 : True := trivial
  have hg41 : True := trivial
  have hg43 : True := trivial
  have hg46 : True := trivial
  have hg52 : True := trivial
  have hg53 : True := trivial
  have hg60 : True := trivial
  have hg61 : True := trivial
  have hg62 : True := trivial
  have hg63 : True := trivial
  have hg66 : True := trivial
  all_goals
    refine Sat.enter Try.func3 rfl Try.ntmps3 rfl (fun c R => ?_)
    try simp only [List.cons_append, List.nil_append]
    repeat' (first
      | (refine T.atB 0 ?_; refine T.lpa 0 [(0, _), (1, _), (2, _)] ((0, 0) : Nat × Nat) (fun z => [(7, .int .i64 (z.2 : Nat)), (8, .int .i64 (z.1 : Nat))]) (fun _ => []) (fun z => z.1 ≤ fs.length ∧ z.2 ≤ 0 + 116 * z.1 ∧ ∀ j, j < z.1 → 14 ≤ (gt fs j).length ∧ (gt fs j).length ≤ 116) (fun z => fs.length - z.1) ⟨Nat.zero_le _, by omega, fun j h => absurd h (Nat.not_lt_zero _)⟩ ?_; rintro ⟨i, sz0⟩ g ⟨hi, hsz0, hall0⟩; dsimp only at hi hsz0 hall0; have hol := hfs i; simp only [List.cons_append, List.nil_append, appR])
      | (refine T.atB 2 ?_; refine T.lpa 2 [(0, _), (1, _), (2, _)] ((0, sz0) : Nat × Nat) (fun z => [(7, .int .i64 (z.2 : Nat)), (9, .int .i64 (z.1 : Nat))]) (fun _ => []) (fun z => z.1 ≤ ss.length ∧ z.2 ≤ sz0 + 116 * z.1 ∧ ∀ j, j < z.1 → 14 ≤ (gt ss j).length ∧ (gt ss j).length ≤ 116) (fun z => ss.length - z.1) ⟨Nat.zero_le _, by omega, fun j h => absurd h (Nat.not_lt_zero _)⟩ ?_; rintro ⟨i, sz2⟩ g ⟨hi, hsz2, hall2⟩; dsimp only at hi hsz2 hall2; have hol := hss i; simp only [List.cons_append, List.nil_append, appR])
      | (refine TQ.atL ?_; refine TQ.rd ((i + 1, sz0 + (gt fs i).length) : Nat × Nat) rfl (by repeat first | exact trivial | refine ⟨rfl, ?_⟩) ⟨by dsimp only; omega, by dsimp only; omega, fun j h => (by by_cases h8 : j = i; rw [h8]; exact ⟨by omega, by omega⟩; exact hall0 j (by dsimp only at h; omega))⟩ (by dsimp only; omega) (Ent.imp (by repeat first | exact Imp.refl _ | (apply Imp.pull; focus ((repeat first | exact Del.head _ _ | apply Del.tail); done)) | apply Imp.drop)))
      | (refine TQ.atL ?_; refine TQ.rd ((i + 1, sz2 + (gt ss i).length) : Nat × Nat) rfl (by repeat first | exact trivial | refine ⟨rfl, ?_⟩) ⟨by dsimp only; omega, by dsimp only; omega, fun j h => (by by_cases h8 : j = i; rw [h8]; exact ⟨by omega, by omega⟩; exact hall2 j (by dsimp only at h; omega))⟩ (by dsimp only; omega) (Ent.imp (by repeat first | exact Imp.refl _ | (apply Imp.pull; focus ((repeat first | exact Del.head _ _ | apply Del.tail); done)) | apply Imp.drop)))
      | (refine T.atR 8 ?_; clear hg8; have hA0 : ∀ j, j < fs.length → 14 ≤ (gt fs j).length ∧ (gt fs j).length ≤ 116 := fun j h => hall0 j (by omega))
      | (refine T.atR 14 ?_; clear hg14; have hA1 : ∀ j, j < ss.length → 14 ≤ (gt ss j).length ∧ (gt ss j).length ≤ 116 := fun j h => hall2 j (by omega))
      | (refine T.atR 16 ?_; clear hg16; have h60 : fs.length + ss.length ≤ 60 := (by omega))
      | (refine T.atR 17 ?_; clear hg17; obtain ⟨cb, hcb⟩ : ∃ x, x = b := ⟨_, rfl⟩; subst hcb)
      | (refine T.atR 18 ?_; clear hg18; obtain ⟨p_, hp_⟩ : ∃ x, x = b := ⟨_, rfl⟩; subst hp_; rw [nszB])
      | (refine ⟨144, 272, 1296, ⟨layB, rfl, rfl⟩, ?_⟩)
      | (refine T.atR 21 ?_; clear hg21; rename_i nn r1 q1 m1 r2 q2 m2 X tk nx bs wh; have hnp := b; clear b)
      | (refine T.atR 24 ?_; clear hg24; rename_i c14; obtain ⟨c15, hc15⟩ : ∃ x, x = b := ⟨_, rfl⟩; subst hc15)
      | (refine T.atB 4 ?_; refine T.ent (Ent.imp imp_w0) ?_; refine T.lpa 4 [(0, _), (1, _), (2, _), (11, _), (13, _), (14, _), (15, _)] (([], 0, none, 0) : List Nat × Nat × Option Addr × Nat) (fun z => [(16, .slice z.2.2.1 (z.1).length z.2.2.2), (17, .int .u16 (z.2.1 : Nat))]) (fun z => [Pw.sl 38 (0 + 1) (.slice z.2.2.1 (z.1).length z.2.2.2) (z.1).length ((z.1).flatMap u16L)]) (fun z => z.2.1 ≤ 4 ∧ z.1 = List.range z.2.1) (fun z => 4 - z.2.1) ⟨by decide, rfl⟩ ?_; rintro ⟨W, w, wa, wk⟩ g ⟨hw, hWr⟩; dsimp only at hw hWr; have hWl : W.length = w := (by rw [hWr, List.length_range]); simp only [List.cons_append, List.nil_append, appR])
      | (refine TQ.atL ?_; rename_i a7; rw [show W.length + 1 = (W ++ [w]).length from by rw [List.length_append]; rfl]; refine TQ.rd ((W ++ [w], w + 1, a7, b) : List Nat × Nat × Option Addr × Nat) rfl (by repeat first | exact trivial | refine ⟨rfl, ?_⟩) ⟨by dsimp only; omega, by dsimp only; rw [hWr]; exact List.range_succ.symm⟩ (by dsimp only; omega) (Ent.imp (by repeat first | exact Imp.refl _ | (apply Imp.pull; focus ((repeat first | exact Del.head _ _ | apply Del.tail); done)) | apply Imp.drop)))
      | (refine T.atR 29 ?_; clear hg29; have hW4 : W = [0, 1, 2, 3] := (by rw [hWr, show w = 4 by omega]; rfl); have hbi : BI fs 0 X tk nx 0 bs W [] [] := (by rw [hW4]; exact bi_start hnp); have hW0 : 0 < W.length := (by rw [hW4]; decide); clear hWr hWl hw)
      | (refine T.atB 6 ?_; refine T.ent (Ent.imp imp_t0) ?_; refine T.ent (Ent.imp (show Imp _ (([row 81 nn [.pointer (some ⟨p_, 0, none⟩), .int .i64 ((128 : Nat) : Int), .pointer (some ⟨r1, 0, none⟩), .pointer (some ⟨q1, 0, none⟩), .map (some m1), .int .i64 ((0 : Nat) : Int), .pointer (some ⟨r2, 0, none⟩), .pointer (some ⟨q2, 0, none⟩), .map (some m2), .int .i64 ((0 : Nat) : Int)], rgA r1 p_ 16 (⟨0, X, tk, nx, 0, bs, W, wa, wk, [], none, 0, []⟩ : B6).X (⟨0, X, tk, nx, 0, bs, W, wa, wk, [], none, 0, []⟩ : B6).tk (⟨0, X, tk, nx, 0, bs, W, wa, wk, [], none, 0, []⟩ : B6).nx (⟨0, X, tk, nx, 0, bs, W, wa, wk, [], none, 0, []⟩ : B6).ls false, memA p_ (⟨0, X, tk, nx, 0, bs, W, wa, wk, [], none, 0, []⟩ : B6).bs (LTn 16 4 144 4 272 128 1296 4), mapJ u32W m1 (.u16, MX (⟨0, X, tk, nx, 0, bs, W, wa, wk, [], none, 0, []⟩ : B6).X), row 38 c14 [.int .u16 ((⟨0, X, tk, nx, 0, bs, W, wa, wk, [], none, 0, []⟩ : B6).i : Nat)], Pw.sl 38 (0 + 1) (.slice (⟨0, X, tk, nx, 0, bs, W, wa, wk, [], none, 0, []⟩ : B6).wa ((⟨0, X, tk, nx, 0, bs, W, wa, wk, [], none, 0, []⟩ : B6).W).length (⟨0, X, tk, nx, 0, bs, W, wa, wk, [], none, 0, []⟩ : B6).wk) ((⟨0, X, tk, nx, 0, bs, W, wa, wk, [], none, 0, []⟩ : B6).W).length (((⟨0, X, tk, nx, 0, bs, W, wa, wk, [], none, 0, []⟩ : B6).W).flatMap u16L), Pw.sl 9 (0 + 1) (.slice (⟨0, X, tk, nx, 0, bs, W, wa, wk, [], none, 0, []⟩ : B6).ta ((⟨0, X, tk, nx, 0, bs, W, wa, wk, [], none, 0, []⟩ : B6).tt).length (⟨0, X, tk, nx, 0, bs, W, wa, wk, [], none, 0, []⟩ : B6).tc) ((⟨0, X, tk, nx, 0, bs, W, wa, wk, [], none, 0, []⟩ : B6).tt).length (((⟨0, X, tk, nx, 0, bs, W, wa, wk, [], none, 0, []⟩ : B6).tt).map str)] ++ [rgA r2 p_ 144 [] (List.replicate 4 false) 0 0 false, mapJ u32W m2 (.u16, MX []), poolV q2 p_ (272 + 4 * 128) 128 (List.replicate 4 0), poolV q1 p_ 272 128 wh, row 26 cb [.int .i64 ((4 : Nat) : Int), .int .i64 ((4 : Nat) : Int), .int .i64 ((128 : Nat) : Int)], row 38 c15 [.int .u16 ((0 : Nat) : Int)], old h]) ++ R) from (by repeat first | exact Imp.refl _ | (apply Imp.pull; focus ((repeat first | exact Del.head _ _ | apply Del.tail); done)) | apply Imp.drop))) ?_; simp only [List.cons_append, List.nil_append]; refine T.lpa 6 [(0, _), (1, _), (2, _), (11, _), (13, _), (14, _), (15, _)] (⟨0, X, tk, nx, 0, bs, W, wa, wk, [], none, 0, []⟩ : B6) (fun s => [(16, .slice s.wa s.W.length s.wk), (18, .slice s.ta s.tt.length s.tc), (19, .int .i64 (s.i : Nat))]) (fun s => [row 81 nn [.pointer (some ⟨p_, 0, none⟩), .int .i64 ((128 : Nat) : Int), .pointer (some ⟨r1, 0, none⟩), .pointer (some ⟨q1, 0, none⟩), .map (some m1), .int .i64 ((0 : Nat) : Int), .pointer (some ⟨r2, 0, none⟩), .pointer (some ⟨q2, 0, none⟩), .map (some m2), .int .i64 ((0 : Nat) : Int)], rgA r1 p_ 16 s.X s.tk s.nx s.ls false, memA p_ s.bs (LTn 16 4 144 4 272 128 1296 4), mapJ u32W m1 (.u16, MX s.X), row 38 c14 [.int .u16 (s.i : Nat)], Pw.sl 38 (0 + 1) (.slice s.wa (s.W).length s.wk) (s.W).length ((s.W).flatMap u16L), Pw.sl 9 (0 + 1) (.slice s.ta (s.tt).length s.tc) (s.tt).length ((s.tt).map str)]) (fun s => s.i ≤ fs.length ∧ 0 < s.W.length ∧ BI fs s.i s.X s.tk s.nx s.ls s.bs s.W s.tt s.D) (fun s => fs.length - s.i) ⟨Nat.zero_le _, hW0, hbi⟩ ?_; rintro ⟨i, X, tk, nx, ls, bs, W, wa, wk, tt, ta, tc, D⟩ g ⟨hi, hw0, I⟩; dsimp only at hi hw0 I; have hdl := I.dl; have hl16 := I.l1; have hfl := congrArg List.length I.fl; rw [List.length_append, List.length_map, List.length_take] at hfl; have hfi := hfs i; have hoi := hos i; dsimp only; simp only [List.cons_append, List.nil_append, appR])
      | (refine T.atK (.tmp 162) ?_; refine T.cutC (.tmp 162) (fun q : Nat => [(0, .slice a0 fs.length k0), (1, .slice a1 ss.length k1), (2, .slice a2 os.length k2), (11, .pointer (some ⟨p_, 0, none⟩)), (13, .pointer (some ⟨nn, 0, none⟩)), (14, .pointer (some ⟨c14, 0, none⟩)), (15, .pointer (some ⟨c15, 0, none⟩)), (16, .slice wa W.length wk), (18, .slice ta tt.length tc), (19, .int .i64 (i : Nat)), (20, .int .i64 (q : Nat))]) (fun _ => row 81 nn [.pointer (some ⟨p_, 0, none⟩), .int .i64 ((128 : Nat) : Int), .pointer (some ⟨r1, 0, none⟩), .pointer (some ⟨q1, 0, none⟩), .map (some m1), .int .i64 ((0 : Nat) : Int), .pointer (some ⟨r2, 0, none⟩), .pointer (some ⟨q2, 0, none⟩), .map (some m2), .int .i64 ((0 : Nat) : Int)] :: rgA r1 p_ 16 X tk nx ls false :: memA p_ bs (LTn 16 4 144 4 272 128 1296 4) :: mapJ u32W m1 (.u16, MX X) :: row 38 c14 [.int .u16 (i : Nat)] :: Pw.sl 38 (0 + 1) (.slice wa (W).length wk) (W).length ((W).flatMap u16L) :: Pw.sl 9 (0 + 1) (.slice ta (tt).length tc) (tt).length ((tt).map str) :: rgA r2 p_ 144 [] (List.replicate 4 false) 0 0 false :: mapJ u32W m2 (.u16, MX []) :: poolV q2 p_ (272 + 4 * 128) 128 (List.replicate 4 0) :: poolV q1 p_ 272 128 wh :: row 26 cb [.int .i64 ((4 : Nat) : Int), .int .i64 ((4 : Nat) : Int), .int .i64 ((128 : Nat) : Int)] :: row 38 c15 [.int .u16 ((0 : Nat) : Int)] :: old h :: R) (fun q => q < W.length) ?_ (fun q g hq => ?_))
      | (refine TQ.atC ?_; refine TQ.cn (_ : Nat) rfl (by repeat first | exact trivial | refine ⟨rfl, ?_⟩) (by first | exact hw0 | exact Nat.mod_lt _ hw0) (Ent.imp (by repeat first | exact Imp.refl _ | (apply Imp.pull; focus ((repeat first | exact Del.head _ _ | apply Del.tail); done)) | apply Imp.drop)))
      | (refine T.atR 36 ?_; clear hg36; have hii : i < fs.length := (by assumption); have hAi := hA0 i hii; have hq4 : gt W q < 4 := I.wl _ (List.mem_append_left _ (gt_mem hq)); refine T.slP (e := 38) ?_ (by repeat first | exact Del.head _ _ | apply Del.tail); intro hIW)
      | (refine ⟨272 + 4 * 128, 128, 1296, (⟨[0], [⟨272 + 4 * 128, 12 + (gt ss j).length, false⟩], da, dk, ba, bk⟩ : Ch), _, _, ⟨layB.txg, htl3, by decide, hbl3, by rw [hX3]; rfl, rfl, by decide, by omega⟩, ?_⟩)
      | (refine ⟨272, 128, 1296, ⟨LTn_geo layB, I.rx, I.bl, hq4, by rw [List.length_append]; show 12 + _ ≤ 128; omega, by omega⟩, ?_⟩)
      | (refine T.atR 38 ?_; clear hg38; have hb2 := bi_step I hq hii (by omega) hAi.1 hAi.2; rw [Nat.mod_eq_of_lt (show i + 1 < 65536 by omega)])
      | (refine T.atR 39 ?_; clear hg39; refine T.ent (Ent.imp imp_w0) ?_; refine T.osl (n := W.length) (by omega) ?_; rintro b5 j5 rest rfl rfl hrest hxs)
      | (refine T.atR 41 ?_; clear hg41; rename_i a7; obtain ⟨k7, hk7⟩ : ∃ x, x = b := ⟨_, rfl⟩; subst hk7; rw [List.nil_append, er_list, er_len hq]; have hel : (W.eraseIdx q).length + 1 = W.length := (by rw [List.length_eraseIdx_of_lt hq]; omega); have hoi2 := hos i)
      | (refine ⟨4, 272, 1296, ⟨rfl, LTn_geo layB, hb2.rx, hb2.bl, by decide⟩, ?_⟩)
      | (refine ⟨4, 272, 1296, ⟨rfl, LTn_geo layB, I.rx, I.bl, by decide⟩, ?_⟩)
      | (refine T.atR 43 ?_; clear hg43; rename_i k1 e1 X1 tk1 nx1 ls1 br1 bs1 lo1 fr1 a9 k9; obtain ⟨he1, hbr1, hlo1, hfr1, hbi1⟩ := bi_recv hb2 (by omega) b; subst he1; subst hbr1; subst hlo1; have hfl1 : fr1.length ≤ 4 := (by rw [hfr1, List.length_map]; have := (hb2).dl; omega))
      | (refine T.atR 46 ?_; clear hg46; rename_i ta2; obtain ⟨tc2, htc2⟩ : ∃ x, x = b := ⟨_, rfl⟩; subst htc2; rw [show tt.length + fr1.length = (tt ++ fr1).length from by rw [List.length_append]])
      | (refine T.atB 8 ?_; refine T.ent (Ent.imp imp_w0) ?_; refine T.lpa 8 [(0, _), (1, _), (2, _), (11, _), (13, _), (14, _), (15, _), (18, _), (19, _)] (([], 0, none, 0) : List Nat × Nat × Option Addr × Nat) (fun z => [(16, .slice z.2.2.1 (z.1).length z.2.2.2), (24, .int .u16 (z.2.1 : Nat))]) (fun z => [Pw.sl 38 (0 + 1) (.slice z.2.2.1 (z.1).length z.2.2.2) (z.1).length ((z.1).flatMap u16L)]) (fun z => z.2.1 ≤ 4 ∧ z.1 = List.range z.2.1) (fun z => 4 - z.2.1) ⟨by decide, rfl⟩ ?_; rintro ⟨W, w, wa, wk⟩ g ⟨hw, hWr⟩; dsimp only at hw hWr; have hWl : W.length = w := (by rw [hWr, List.length_range]); simp only [List.cons_append, List.nil_append, appR])
      | (refine TQ.atL ?_; refine TQ.rd (⟨i + 1, X, tk, nx, ls, _, W.eraseIdx q, a7, k7, tt, ta, tc, D ++ [(gt W q, gt fs i)]⟩ : B6) rfl (by repeat first | exact trivial | refine ⟨rfl, ?_⟩) ⟨Nat.succ_le_of_lt hii, (by dsimp only; omega), hb2⟩ (by dsimp only; omega) (Ent.imp (by repeat first | exact Imp.refl _ | (apply Imp.pull; focus ((repeat first | exact Del.head _ _ | apply Del.tail); done)) | apply Imp.drop)))
      | (refine TQ.atL ?_; have hW4 : W = [0, 1, 2, 3] := (by rw [hWr, show w = 4 by omega]; rfl); refine TQ.rd (⟨i + 1, X1, tk1, nx1, ls1, bs1, W, wa, wk, tt ++ fr1, ta2, tc2, []⟩ : B6) rfl (by repeat first | exact trivial | refine ⟨rfl, ?_⟩) ⟨Nat.succ_le_of_lt hii, (by dsimp only; rw [hW4]; decide), (by dsimp only; rw [hW4]; exact hbi1)⟩ (by dsimp only; omega) (Ent.imp (by repeat first | exact Imp.refl _ | (apply Imp.pull; focus ((repeat first | exact Del.head _ _ | apply Del.tail); done)) | apply Imp.drop)))
      | (refine T.atR 52 ?_; clear hg52; rename_i k1 e1 X1 tk1 nx1 ls1 br1 bs1 lo1 fr1 a9 k9; obtain ⟨he1, hbr1, hlo1, hfr1, hbi1⟩ := bi_recv I (by omega) b; subst he1; subst hbr1; subst hlo1; have hfl1 : fr1.length ≤ 4 := (by rw [hfr1, List.length_map]; have := (I).dl; omega); have hT : tt ++ fr1 = fs := (by have h9 := hbi1.fl; rw [List.map_nil, List.append_nil] at h9; rw [h9]; exact List.take_of_length_le (by omega)))
      | (refine T.atR 53 ?_; clear hg53; rename_i ta2; obtain ⟨tc2, htc2⟩ : ∃ x, x = b := ⟨_, rfl⟩; subst htc2; rw [show tt.length + fr1.length = (tt ++ fr1).length from by rw [List.length_append], hT])
      | (refine T.atR 54 ?_; exfalso; revert hc; simp)
      | (refine T.atB 10 ?_; refine T.lpa 10 [(0, _), (1, _), (2, _), (11, _), (13, _), (14, _), (15, _)] (⟨0, [], List.replicate 4 false, 0, 0, bs1, List.replicate 4 0⟩ : B10) (fun s => [(26, .int .i64 (s.j : Nat))]) (fun s => [row 81 nn [.pointer (some ⟨p_, 0, none⟩), .int .i64 ((128 : Nat) : Int), .pointer (some ⟨r1, 0, none⟩), .pointer (some ⟨q1, 0, none⟩), .map (some m1), .int .i64 ((0 : Nat) : Int), .pointer (some ⟨r2, 0, none⟩), .pointer (some ⟨q2, 0, none⟩), .map (some m2), .int .i64 ((0 : Nat) : Int)], rgA r2 p_ 144 s.X s.tk s.nx s.ls false, memA p_ s.bs (LTn 16 4 144 4 272 128 1296 4), mapJ u32W m2 (.u16, MX s.X), poolV q2 p_ (272 + 4 * 128) 128 s.wh, row 38 c15 [.int .u16 (s.j : Nat)]]) (fun s => s.j ≤ ss.length ∧ BT s.j s.X s.tk s.nx s.ls s.bs s.wh) (fun s => ss.length - s.j) ⟨Nat.zero_le _, bt_start hbi1⟩ ?_; rintro ⟨j, X2, tk2, nx2, ls2, bs2, wh2⟩ g ⟨hj, J⟩; dsimp only at hj J; have hjl := J.wl; have hsj := hss j; dsimp only; simp only [List.cons_append, List.nil_append, appR])
      | (refine ⟨4, 1296, ⟨rfl, rfl, J.tx, J.bl, by rw [hjl]; decide, by decide, by decide, by decide, by rw [hjl]; decide, by decide, by have h9 := hA1 j (by assumption); omega⟩, ?_⟩)
      | (refine T.atR 59 ?_; exfalso; have hjj : j < ss.length := (by assumption); have hAj := hA1 j hjj; have h9 := (bt_send J (by omega) hAj.1 hAj.2 b).e0; omega)
      | (refine T.atR 60 ?_; clear hg60; rename_i e3 bs3 X3 tk3 nx3 ls3 br3 wh3 lo3; have hjj : j < ss.length := (by assumption); have hAj := hA1 j hjj; have hS := bt_send J (by omega) hAj.1 hAj.2 b; clear b; have hbr3 := hS.b0; subst hbr3; have hlo3 := hS.l0; subst hlo3; have htl3 : tk3.length = 4 := hS.tx.tl; obtain ⟨da, dk, ba, bk, hX3⟩ := hS.s.x; have hbl3 := hS.s.len)
      | (refine T.atR 61 ?_; clear hg61; rw [htl3, hS.s.ix, Nat.mod_eq_of_lt (show j + 1 < 65536 by omega)])
      | (refine T.atR 62 ?_; clear hg62; (try rw [htl3]); (try rw [Nat.add_sub_cancel]); rw [hS.s.hd])
      | (refine ⟨(⟨[0], [⟨272 + 4 * 128, 12 + (gt ss j).length, false⟩], da, dk, ba, bk⟩ : Ch), ⟨by rw [hX3]; rfl, by simp, by simp⟩, ?_⟩)
      | (refine T.atR 63 ?_; clear hg63; simp only [List.length_cons, List.length_nil, Nat.zero_add, List.flatMap_cons, List.flatMap_nil, List.append_nil, bufV]; refine T.slP (e := 54) ?_ (by repeat first | exact Del.head _ _ | apply Del.tail); intro hIC)
      | (refine T.atR 64 ?_; exfalso; omega)
      | (refine T.atR 66 ?_; clear hg66; rw [hS.s.rd])
      | (refine T.atR 67 ?_; exfalso; first | omega | (revert hc; simp))
      | (refine TQ.atL ?_; rw [Nat.mod_eq_of_lt (show j + 1 < 65536 by omega)]; refine TQ.rd (⟨j + 1, X3, tk3, nx3, ls3, brT bs3 144 4 j 0, wh3⟩ : B10) rfl (by repeat first | exact trivial | refine ⟨rfl, ?_⟩) ⟨Nat.succ_le_of_lt hjj, bt_next (by omega) hS⟩ (by dsimp only; omega) (Ent.imp (by repeat first | exact Imp.refl _ | (apply Imp.pull; focus ((repeat first | exact Del.head _ _ | apply Del.tail); done)) | apply Imp.drop)))
      | (refine atB9US ?_; refine Pw.LkG.stkg ?_)
      | (rw [sz4]; decide)
      | (refine (show (_ : Nat) ≤ 9223372036854775807 from ?_); simp only [List.length_append, List.length_replicate, List.length_cons, List.length_nil]; omega)
      | (exact Fini.of ⟨rfl, rfl⟩ (by repeat first | exact Imp.refl _ | (apply Imp.pull; focus ((repeat first | exact Del.head _ _ | apply Del.tail); done)) | apply Imp.drop))
      | refine T.pk 36 [2, 7, 14] (.p 0 (.p 1 (.p 3 (.p 4 (.p 5 (.p 9 (.p 10 (.p 11 (.g 6 (.g 12 (.n 2 (.n 7 (.p 8 (.p 13 (.n 14 (.p 15 .fin)))))))))))))))) ?_
      | refine T.pk 63 [] (.p 0 (.p 1 (.p 2 (.p 3 (.p 4 (.p 5 (.p 6 (.p 7 (.p 8 (.p 9 (.d 10 (.g 11 (.p 12 (.p 13 (.p 14 (.p 15 (.p 19 (.p 20 (.p 21 (.g 22 (.p 23 (.p 24 (.d 16 (.g 17 (.p 18 (.p 25 (.p 26 (.p 27 (.p 28 (.p 29 (.p 30 (.p 31 (.p 32 (.p 33 .fin)))))))))))))))))))))))))))))))))) ?_
      | refine T.pk 65 [10] (.p 0 (.p 1 (.p 2 (.p 5 (.p 6 (.d 3 (.g 4 (.d 7 (.g 8 (.p 9 (.n 10 (.p 11 (.p 12 (.p 13 (.p 14 (.p 15 .fin)))))))))))))))) ?_
      | refine T.pk 66 [1, 11, 13] (.p 0 (.p 2 (.p 3 (.p 4 (.g 5 (.n 1 (.p 6 (.p 7 (.p 8 (.p 9 (.p 10 (.p 12 (.n 11 (.n 13 (.p 14 (.p 15 .fin)))))))))))))))) ?_
      | refine And.intro (fun hc => ?_) (fun hc => ?_)
      | refine And.intro ?_ ?_
      | intro b
      | ((first | refine atB9US ?_ | refine atB9USK ?_ | refine atB9UN ?_); refine stk ?_)
      | refine stp ?_
      | refine TQ.finC ?_
      | refine TQ.finC2 ?_
      | refine TQ.finC3 ?_
      | refine ⟨fun hc => ?_, fun hc => ?_⟩
      | refine Ei.f ?_
      | refine ⟨?_, ?_⟩
      | intro b
      | exact absurd rfl hc
      | exact absurd hc (by decide)
      | omega
      | (dsimp only; omega)
      | fail)

end Go.Proofs.Ytimaecgdahmmdaa

