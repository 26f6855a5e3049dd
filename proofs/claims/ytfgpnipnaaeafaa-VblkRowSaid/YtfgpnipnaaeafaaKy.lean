/- Lemmas for the proofs of this seat: no statement of the seat is claimed here. -/
import Derived.Test.YtfgpnipnaaeafaaKx
set_option linter.all false

namespace Go.Proofs.Ytfgpnipnaaeafaa
open Go Pw
set_option maxRecDepth 20000
set_option maxHeartbeats 4000000
set_option synthInstance.maxHeartbeats 400000
set_option synthInstance.maxSize 4000
set_option maxHeartbeats 8000000

abbrev rdB (bs : List UInt8) (lt : List Bool) (a b : Nat) : List UInt8 := (writeE (writeE (writeE bs lt a (leB 0 8) false 11).2 lt (a + 8) (leB (b * 2) 8) false 11).2 lt (a + 1040) [255] false 11).2
/-- What Read answers, and leaves. -/
inductive ReadP (A P : Nat) (b : Nat) (bs : List UInt8) (lt : List Bool) (X : XC) (tk : List Bool) (nx : Nat) (br : Bool) (K : AC) (wh : List UInt8) (dn : Nat) : Nat → Nat → Nat → Bool → List UInt8 → List Bool → XC → List Bool → Nat → AC → List UInt8 → Prop
  | full {a e : Nat} {wh' : List UInt8} : GetP P 1041 wh a e wh' → e ≠ 0 → ReadP A P b bs lt X tk nx br K wh dn 0 e dn false bs lt X tk nx K wh'
  | asked {a hd : Nat} {wh' bs' : List UInt8} {lt' tk' : List Bool} {X' : XC} {nx' : Nat} : GetP P 1041 wh a 0 wh' → AddP A (rdB bs lt a b) lt (lay a) X tk nx br hd 0 bs' lt' X' tk' nx' → ReadP A P b bs lt X tk nx br K wh dn dn 0 (dn + 1) false bs' lt' X' tk' nx' (K ++ [(hd, ⟨dn, b, a⟩)]) wh'
  | back {a hd e4 : Nat} {wh' wh2 bs' : List UInt8} {lt' tk' : List Bool} {X' : XC} {nx' : Nat} : GetP P 1041 wh a 0 wh' → AddP A (rdB bs lt a b) lt (lay a) X tk nx br hd 6 bs' lt' X' tk' nx' → PutP P 1041 wh' a e4 wh2 → ReadP A P b bs lt X tk nx br K wh dn 0 6 dn false bs' lt' X' tk' nx' K wh2
  | broke {a hd e : Nat} {wh' bs' : List UInt8} {lt' tk' : List Bool} {X' : XC} {nx' : Nat} : GetP P 1041 wh a 0 wh' → AddP A (rdB bs lt a b) lt (lay a) X tk nx br hd e bs' lt' X' tk' nx' → e ≠ 0 → e ≠ 6 → ReadP A P b bs lt X tk nx br K wh dn 0 41 dn true bs' lt' X' tk' nx' K wh'
theorem rdB_len (bs : List UInt8) (lt : List Bool) (a b : Nat) : (rdB bs lt a b).length = bs.length := by simp only [rdB, writeE_len]
theorem lay_ok {a : Nat} (h : a ≤ 1048576) : ∀ b ∈ lay a, b.ok := fun b hb => by
  simp only [lay, List.mem_cons, List.not_mem_nil, or_false] at hb
  rcases hb with rfl | rfl | rfl
  · exact ⟨by dsimp only; omega, by dsimp only; omega⟩
  · exact ⟨by dsimp only; omega, by dsimp only; omega⟩
  · exact ⟨by dsimp only; omega, by dsimp only; omega⟩
theorem Prd.keys {N : Nat} {X : XC} {K : AC} (i : Prd N X K) : K.map (·.1) = X.map (·.1) := by
  have := congrArg (List.map (·.1)) i.pr
  rw [List.map_map, List.map_map] at this
  exact this.symm
theorem add_new {A a hd nx nx' ls : Nat} {bs bs' : List UInt8} {lt lt' tk tk' : List Bool} {X X' : XC} {br : Bool} (ha : a ≤ 1048576) (h : AddP A bs lt (lay a) X tk nx br hd 0 bs' lt' X' tk' nx') (k : RgOk A bs.length X tk nx ls) : hd ∉ X.map (·.1) ∧ hd < 65536 := by
  have h2 := (add_ok (lay_ok ha) h k).keys
  cases h with
  | no e _ _ h3 => exact absurd rfl h3
  | lent e lt' _ _ _ h3 => exact absurd rfl h3
  | done lt' bs' da dk ba bk hbr hmay =>
    rw [List.map_append, List.nodup_append] at h2
    have hst := st_ok 3 (hmay.ok rfl).2.2.2
    have hdl := hst.dl
    have h0 := hst.dd _ (gt_mem (show 0 < (stE tk 3).1.length by omega))
    have hx1 := hst.x1
    have hn1 := k.n1
    refine ⟨fun hm => h2.2.2 _ hm _ (by simp) rfl, ?_⟩
    show gt (stE tk 3).1 0 < 65536
    omega
theorem get_ad {P sz a e : Nat} {wh wh' : List UInt8} (h : GetP P sz wh a e wh') (hb : P + wh.length * sz ≤ 1048576) : a ≤ 1048576 := by
  cases h with
  | full => omega
  | got i hi => exact Nat.le_trans (Nat.add_le_add_left (Nat.mul_le_mul_right sz (Nat.le_of_lt hi)) P) hb
theorem get_le {P sz a e : Nat} {wh wh' : List UInt8} (h : GetP P sz wh a e wh') : e ≤ 20 ∧ wh'.length = wh.length := by cases h <;> simp
theorem add_le {A N a hd e nx nx' ls : Nat} {bs bs' : List UInt8} {lt lt' tk tk' : List Bool} {X X' : XC} {br : Bool} (h : AddP A bs lt (lay a) X tk nx br hd e bs' lt' X' tk' nx') (k : RgOk A N X tk nx ls) : e ≤ 20 ∧ hd < 65536 := by
  cases h with
  | dead => exact ⟨by decide, by decide⟩
  | no _ _ h2 h3 => exact ⟨h2.le, by decide⟩
  | lent _ _ _ _ h2 h3 => exact ⟨h2.le, by decide⟩
  | done _ _ da dk ba bk _ h2 _ _ =>
    have hst := st_ok 3 (h2.ok rfl).2.2.2
    have hdl := hst.dl
    have h0 := hst.dd _ (gt_mem (show 0 < (stE tk 3).1.length by omega))
    have hx1 := hst.x1
    have hn1 := k.n1
    refine ⟨by decide, ?_⟩
    show gt (stE tk 3).1 0 < 65536
    omega
attribute [local irreducible] writeE
theorem read_spec (d p r q m A P N bl nx ls bb dn : Nat) (br : Bool) (bs wh : List UInt8) (lt tk : List Bool) (X : XC) (K : AC) (hok : RgOk A N X tk nx ls) (hpr : Prd N X K) (hb : bs.length = N) (hw : wh.length ≤ 256) (hP : P ≤ 1048576) (hPw : P + wh.length * 1041 ≤ 1048576) (hbb : bb < bl) (hbl : bl ≤ 65536) (hdn : dn < 4294967295) :
    Sat Try.prog 15 [.pointer (some ⟨d, 0, none⟩), .int .u32 (bb : Nat)] [row 79 d [.pointer (some ⟨p, 0, none⟩), .pointer (some ⟨r, 0, none⟩), .pointer (some ⟨q, 0, none⟩), .int .u32 (bl : Nat), .map (some m), .int .u32 (dn : Nat), .bool false], rgA r p A X tk nx ls br, memA p bs lt, poolV q p P 1041 wh, mapJ askV m (.u16, K)] (fun u L' => ∃ id e dn' fl' bs' lt' X' tk' nx' K' wh', ReadP A P bb bs lt X tk nx br K wh dn id e dn' fl' bs' lt' X' tk' nx' K' wh' ∧ u = .tuple #[.int .u32 (id : Nat), .int .i64 (e : Nat)] ∧ L' = [row 79 d [.pointer (some ⟨p, 0, none⟩), .pointer (some ⟨r, 0, none⟩), .pointer (some ⟨q, 0, none⟩), .int .u32 (bl : Nat), .map (some m), .int .u32 (dn' : Nat), .bool fl'], rgA r p A X' tk' nx' ls br, memA p bs' lt', poolV q p P 1041 wh', mapJ askV m (.u16, K')]) := by
  have hg8 : True := trivial
  have hg10 : True := trivial
  have hg13 : True := trivial
  have hg14 : True := trivial
  have hg20 : True := trivial
  have hg21 : True := trivial
  all_goals
    refine Sat.enter Try.func15 rfl Try.ntmps15 rfl (fun c R => ?_)
    try simp only [List.cons_append, List.nil_append]
    repeat' (first
      | (refine T.atR 8 ?_; clear hg8; rename_i a9 ge9 wh9; have hget := b; obtain ⟨hge20, hwl9⟩ := get_le hget; have ha9 := get_ad hget hPw)
      | (refine T.atR 10 ?_; clear hg10; obtain rfl : ge9 = 0 := (by omega))
      | (refine T.atR 13 ?_; clear hg13; have hwb : (rdB bs lt a9 bb).length = N := (by rw [rdB_len]; exact hb); have hokb : RgOk A (rdB bs lt a9 bb).length X tk nx ls := (by rw [hwb]; exact hok))
      | (refine T.atR 14 ?_; clear hg14; rename_i hd9 e9 bs9 lt9 X9 tk9 nx9; have hadd := b; obtain ⟨he20, hhd⟩ := add_le hadd hokb)
      | (refine T.atR 20 ?_; clear hg20; rename_i e4 wh4; have hput := b)
      | (refine T.atR 21 ?_; clear hg21; obtain rfl : e9 = 0 := (by omega); have hnew := (add_new ha9 hadd hokb).1; rw [← hpr.keys] at hnew)
      | (refine Vc.mk ⟨rfl, hokb, lay_ok ha9, (by show (3 : Nat) < 9223372036854775808; decide)⟩ ?_)
      | (refine Vc.mk hnew ?_)
      | (refine finAt ?_; refine Fini.of ⟨_, _, _, _, _, _, _, _, _, _, _, .asked hget hadd, (by first | rfl | simp), rfl⟩ ?_; exact (by simp only [List.cons_append, List.nil_append]; repeat first | (apply Imp.pull; focus ((repeat first | with_reducible exact Del.head _ _ | with_reducible apply Del.tail); done)) | with_reducible exact Imp.refl _ | apply Imp.drop))
      | (refine finAt ?_; have h6 : e9 = 6 := (by omega); subst h6; refine Fini.of ⟨_, _, _, _, _, _, _, _, _, _, _, .back hget hadd hput, rfl, rfl⟩ ?_; exact (by simp only [List.cons_append, List.nil_append]; repeat first | (apply Imp.pull; focus ((repeat first | with_reducible exact Del.head _ _ | with_reducible apply Del.tail); done)) | with_reducible exact Imp.refl _ | apply Imp.drop))
      | (refine finAt ?_; refine Fini.of ⟨_, _, _, _, _, _, _, _, _, _, _, .broke hget hadd (by omega) (by omega), rfl, rfl⟩ ?_; exact (by simp only [List.cons_append, List.nil_append]; repeat first | (apply Imp.pull; focus ((repeat first | with_reducible exact Del.head _ _ | with_reducible apply Del.tail); done)) | with_reducible exact Imp.refl _ | apply Imp.drop))
      | (refine finAt ?_; refine Fini.of ⟨_, _, _, _, _, _, _, _, _, _, _, .full hget (by omega), rfl, rfl⟩ ?_; exact (by simp only [List.cons_append, List.nil_append]; repeat first | (apply Imp.pull; focus ((repeat first | with_reducible exact Del.head _ _ | with_reducible apply Del.tail); done)) | with_reducible exact Imp.refl _ | apply Imp.drop))
      | refine T.pk 21 [12] (.p 0 (.p 1 (.p 4 (.p 5 (.p 6 (.p 9 (.p 10 (.d 2 (.g 3 (.d 7 (.g 8 (.p 11 (.n 12 .fin))))))))))))) ?_
      | refine And.intro (fun hc => ?_) (fun hc => ?_)
      | refine And.intro ?_ ?_
      | intro b
      | ((first | refine atDS ?_ | refine atDSK ?_ | refine atDN ?_); refine stk ?_)
      | refine stp ?_
      | refine TQ.finC ?_
      | refine TQ.finC2 ?_
      | refine TQ.finC3 ?_
      | refine ⟨fun hc => ?_, fun hc => ?_⟩
      | refine Ei.f ?_
      | refine ⟨?_, ?_⟩
      | intro b
      | exact absurd rfl hc
      | exact absurd hc (by decide)
      | omega
      | (dsimp only; omega)
      | fail)

end Go.Proofs.Ytfgpnipnaaeafaa


namespace Go.Proofs.Ytfgpnipnaaeafaa
open Go Pw
set_option maxRecDepth 20000
set_option maxHeartbeats 4000000
set_option synthInstance.maxHeartbeats 400000
set_option synthInstance.maxSize 4000
set_option maxHeartbeats 8000000
theorem _root_.Pw.T.slP {P : Program} {r : Rd} {c : Ctx} {L R : List Assn} {Q : Exit → Env → Rd → World → Prop} {E : Env} {code : Code} {e : TypeId} {sz n k : Nat} {a : Option Addr} {xs : List Value} (h : InpP a sz n k → T P r c L code Q E) (hd : Del (Pw.sl e sz (.slice a n k) n xs) L R) : T P r c L code Q E := by
  unfold T at h ⊢
  intro w hw
  refine h ⟨fun hn => ?_⟩ w hw
  obtain ⟨e1, e2, e3, f1, f2, hdj, hf1, hf2, hsl, hl⟩ := hw.perm hd.perm
  rcases hsl with ⟨hv, h0, hxs⟩ | ⟨b, k, rest, hv, hxl, hrl, hrow⟩
  · omega
  · simp only [Value.slice.injEq] at hv
    exact ⟨b, 0, hv.1⟩
instance (priority := 1500) {a b c d e f g h i : Value} : ElV [a, b, c, d, e, f, g, h, i] (0 * (2 + 1) + 0) a True := ⟨fun _ => rfl⟩
instance (priority := 1500) {a b c d e f g h i : Value} : ElV [a, b, c, d, e, f, g, h, i] (0 * (2 + 1) + 1) b True := ⟨fun _ => rfl⟩
instance (priority := 1500) {a b c d e f g h i : Value} : ElV [a, b, c, d, e, f, g, h, i] (0 * (2 + 1) + 2) c True := ⟨fun _ => rfl⟩
instance (priority := 1500) {a b c d e f g h i : Value} : ElV [a, b, c, d, e, f, g, h, i] (1 * (2 + 1) + 0) d True := ⟨fun _ => rfl⟩
instance (priority := 1500) {a b c d e f g h i : Value} : ElV [a, b, c, d, e, f, g, h, i] (1 * (2 + 1) + 1) e True := ⟨fun _ => rfl⟩
instance (priority := 1500) {a b c d e f g h i : Value} : ElV [a, b, c, d, e, f, g, h, i] (1 * (2 + 1) + 2) f True := ⟨fun _ => rfl⟩
instance (priority := 1500) {a b c d e f g h i : Value} : ElV [a, b, c, d, e, f, g, h, i] (2 * (2 + 1) + 0) g True := ⟨fun _ => rfl⟩
instance (priority := 1500) {a b c d e f g h i : Value} : ElV [a, b, c, d, e, f, g, h, i] (2 * (2 + 1) + 1) h True := ⟨fun _ => rfl⟩
instance (priority := 1500) {a b c d e f g h i : Value} : ElV [a, b, c, d, e, f, g, h, i] (2 * (2 + 1) + 2) i True := ⟨fun _ => rfl⟩
attribute [local irreducible] writeE partN sizeE
theorem serves_spec (p r A n nx ls k h nc a st : Nat) (br : Bool) (X : XC) (tk : List Bool) (bs b1 b2 b3 b4 dt : List UInt8) (lt : List Bool) (ch : Ch) (hX : atJ X h = some ch) (hl : ch.l = lay a) (hdt : dt.length = 1024) (w1 : writeE bs lt (a + 16) dt true 12 = (0, b1)) (w2 : writeE b1 lt (a + 1040) [UInt8.ofNat st] true 12 = (0, b2)) (w3 : writeE b2 lt (A + partN tk.length + 4 + 8 * (k % n)) (leB h 4 ++ leB 1025 4) true 12 = (0, b3)) (w4 : writeE b3 lt (A + partN tk.length + 2) (leB ((k + 1) % 65536) 2) true 12 = (0, b4)) (hn0 : 0 < n) (hn2 : n ≤ 256) (htl : tk.length ≤ 256) (hp : partN tk.length ≤ 10000) (hA : A ≤ 1048576) (ha : a ≤ 1048576) (hh : h < 65536) (hk : k < 65536) (hst : st < 256) :
    Sat Try.prog 17 [.pointer (some ⟨p, 0, none⟩), .pointer (some ⟨r, 0, none⟩), .int .i64 (n : Nat), .pointer (some ⟨nc, 0, none⟩), .int .u16 (h : Nat), str dt, .int .u8 (st : Nat)] [rgA r p A X tk nx ls br, memA p bs lt, row 39 nc [.int .u16 (k : Nat)]] (fun u L' => u = .bool true ∧ L' = [rgA r p A X tk nx ls br, memA p b4 lt, row 39 nc [.int .u16 (((k + 1) % 65536 : Nat) : Int)]]) := by
  have hkm := Nat.mod_lt k hn0
  have hg2 : True := trivial
  have hg5 : True := trivial
  have hg6 : True := trivial
  have hg7 : True := trivial
  have hg9 : True := trivial
  all_goals
    refine Sat.enter Try.func17 rfl Try.ntmps17 rfl (fun c R => ?_)
    try simp only [List.cons_append, List.nil_append]
    repeat' (first
      | (refine ⟨ch, ⟨hX, by rw [hl]; exact Nat.succ_pos 2, by rw [hl]; show (3 : Nat) ≤ 8; decide⟩, ?_⟩)
      | (refine T.atR 2 ?_; clear hg2; rw [hl]; simp only [lay, List.length_cons, List.length_nil, Nat.zero_add, Nat.reduceAdd, List.flatMap_cons, List.flatMap_nil, List.append_nil, bufV, List.cons_append, List.nil_append]; refine T.slP (e := 90) ?_ (by repeat first | with_reducible exact Del.head _ _ | with_reducible apply Del.tail); intro hIW)
      | (refine T.atR 5 ?_; clear hg5; rw [w1]; dsimp only)
      | (refine T.atR 6 ?_; clear hg6; rw [w2]; dsimp only)
      | (refine T.atR 7 ?_; clear hg7; rw [w3]; dsimp only)
      | (refine T.atR 9 ?_; clear hg9; rw [w4]; dsimp only)
      | (refine finAt ?_; exact Fini.of ⟨rfl, rfl⟩ (by simp only [List.cons_append, List.nil_append]; repeat first | (apply Imp.pull; focus ((repeat first | with_reducible exact Del.head _ _ | with_reducible apply Del.tail); done)) | with_reducible exact Imp.refl _ | apply Imp.drop))
      | (rw [List.length_append, leB_len, leB_len]; omega)
      | (rw [leB_len]; omega)
      | (rw [leB_len, leB_len]; omega)
      | (rw [hdt]; decide)
      | (show (1 : Nat) < 9223372036854775808; decide)
      | refine T.pk 5 [6, 8] (.p 0 (.p 1 (.p 2 (.p 5 (.p 3 (.g 4 (.n 6 (.g 7 (.n 8 (.p 9 .fin)))))))))) ?_
      | refine T.pk 6 [2, 15, 16, 18] (.p 0 (.p 1 (.p 4 (.p 5 (.p 8 (.p 13 (.p 14 (.g 6 (.p 7 (.p 9 (.p 10 (.p 11 (.n 2 (.p 3 (.p 12 (.n 15 (.n 16 (.p 17 (.n 18 (.p 19 .fin)))))))))))))))))))) ?_
      | refine T.pk 8 [2, 8, 9] (.p 0 (.p 1 (.p 4 (.p 5 (.g 6 (.p 7 (.n 2 (.p 3 (.n 8 (.n 9 (.p 10 .fin))))))))))) ?_
      | refine And.intro (fun hc => ?_) (fun hc => ?_)
      | refine And.intro ?_ ?_
      | intro b
      | ((first | refine atDS ?_ | refine atDSK ?_ | refine atDN ?_); refine stk ?_)
      | refine stp ?_
      | refine TQ.finC ?_
      | refine TQ.finC2 ?_
      | refine TQ.finC3 ?_
      | refine ⟨fun hc => ?_, fun hc => ?_⟩
      | refine Ei.f ?_
      | refine ⟨?_, ?_⟩
      | intro b
      | exact absurd rfl hc
      | exact absurd hc (by decide)
      | omega
      | (dsimp only; omega)
      | fail)

end Go.Proofs.Ytfgpnipnaaeafaa

