/- Lemmas for the proofs of this seat: no statement of the seat is claimed here. -/
import Derived.Test.YtfgpnipnaaeafaaKv
import Derived.Test.YtfgpnipnaaeafaaKc2
set_option linter.all false

namespace Go.Proofs.Ytfgpnipnaaeafaa
open Go Pw
set_option maxRecDepth 20000
set_option maxHeartbeats 4000000
set_option synthInstance.maxHeartbeats 400000
set_option synthInstance.maxSize 4000
set_option maxHeartbeats 8000000

def errO : Option (List UInt8) → Nat
  | some _ => 0
  | none => 40
abbrev blkV (id blk : Nat) (o : Option (List UInt8)) : List Value := [.int .u32 (id : Nat), .int .u32 (blk : Nat), str (o.getD []), .int .i64 (errO o : Nat)]
/-- What a request that is done is answered by. -/
def ansE (bs : List UInt8) (a sz : Nat) : Option (List UInt8) := if sz = 1025 ∧ bs[a + 1040]? = some 0 then some ((bs.drop (a + 16)).take 1024) else none
theorem ans_rd {bs : List UInt8} {a : Nat} (h : a + 1041 ≤ bs.length) : readE bs (a + 16) 1025 = ((bs.drop (a + 16)).take 1025, 0) := by
  unfold readE
  rw [if_neg (by omega), if_pos (by show a + 16 + 1025 ≤ bs.length; omega)]; rfl
theorem ans_len {bs : List UInt8} {a : Nat} (h : a + 1041 ≤ bs.length) : ((bs.drop (a + 16)).take 1025).length = 1025 := by rw [List.length_take, List.length_drop]; omega
theorem ans_at {bs : List UInt8} {a : Nat} (h : a + 1041 ≤ bs.length) : bs[a + 1040]? = some (gt ((bs.drop (a + 16)).take 1025) 1024) := by
  have := gt_get (l := (bs.drop (a + 16)).take 1025) (i := 1024) (by rw [ans_len h]; decide)
  rw [List.getElem?_take, if_pos (by decide), List.getElem?_drop] at this
  rw [← this]
theorem ans_tk {bs : List UInt8} {a : Nat} : ((bs.drop (a + 16)).take 1025).take 1024 = (bs.drop (a + 16)).take 1024 := by rw [List.take_take]; rfl
theorem ans_yes {bs : List UInt8} {a sz : Nat} (h : a + 1041 ≤ bs.length) (h1 : sz = 1025) (h2 : gt ((bs.drop (a + 16)).take 1025) 1024 = 0) : ansE bs a sz = some ((bs.drop (a + 16)).take 1024) := by
  unfold ansE; rw [if_pos ⟨h1, by rw [ans_at h, h2]⟩]
theorem ans_no {bs : List UInt8} {a sz : Nat} (h : a + 1041 ≤ bs.length) (h1 : sz = 1025 → gt ((bs.drop (a + 16)).take 1025) 1024 ≠ 0) : ansE bs a sz = none := by
  unfold ansE; rw [if_neg]; rintro ⟨h2, h3⟩; rw [ans_at h] at h3; exact h1 h2 (Option.some.inj h3)
theorem pputD_spec {c : Ctx} (q p P sz k : Nat) (a : Option Addr) (wh : List UInt8) (at_ : Nat) (hn : wh.length ≤ 256) (hz : 0 < sz) (hz2 : sz ≤ 1048576) (hP : P ≤ 1048576) (ha : at_ < 4294967296) (u : FrameMode) : SatD Try.prog c 33 [.pointer (some ⟨q, 0, none⟩), .int .u32 at_] u [row 112 q [.pointer (some ⟨p, 0, none⟩), .int .u32 P, .int .i64 sz, .slice a wh.length k], Pw.sl 5 (0 + 1) (.slice a wh.length k) wh.length (wh.map byteV)] (fun u' L' => u' = u ∧ ∃ e wh', PutP P sz wh at_ e wh' ∧ L' = [row 112 q [.pointer (some ⟨p, 0, none⟩), .int .u32 P, .int .i64 sz, .slice a wh'.length k], Pw.sl 5 (0 + 1) (.slice a wh'.length k) wh'.length (wh'.map byteV)]) := by
  have ht : ∀ L, FnR Try.prog 54 [.pointer (some ⟨q, 0, none⟩), .int .u32 (at_ : Nat), .int .u8 1, .int .u8 0, .func (.func 55) #[] #[]] (row 112 q [.pointer (some ⟨p, 0, none⟩), .int .u32 P, .int .i64 sz, .slice a wh.length k] :: Pw.sl 5 (0 + 1) (.slice a wh.length k) wh.length (wh.map byteV) :: L) (fun kk => ∀ e wh', PutP P sz wh at_ e wh' → kk (.int .i64 (e : Nat)) (row 112 q [.pointer (some ⟨p, 0, none⟩), .int .u32 P, .int .i64 sz, .slice a wh'.length k] :: Pw.sl 5 (0 + 1) (.slice a wh'.length k) wh'.length (wh'.map byteV) :: L)) := fun L =>
    ⟨fun kk h => ⟨_, L, _, turn_spec q p P sz k a wh at_ hn hz hz2 hP ha, .cons (.head _ _) (.cons (.head _ _) (.nil _)), fun v L' hv => by obtain ⟨e, wh', f1, f2, f3⟩ := hv; rw [f2, f3]; exact h e wh' f1⟩⟩
  all_goals
    refine SatD.enter Try.func33 rfl Try.ntmps33 rfl (fun R => ?_)
    try simp only [List.cons_append, List.nil_append]
    repeat' (first
      | (refine TQ.toD ?_)
      | (refine finAt ?_; rename_i e w; refine Fini.of ⟨(by trivial), _, _, b, rfl⟩ ?_; simp only [List.cons_append, List.nil_append]; exact (by repeat first | exact Imp.refl _ | (apply Imp.pull; focus ((repeat first | exact Del.head _ _ | apply Del.tail); done)) | apply Imp.drop))
      | refine And.intro (fun hc => ?_) (fun hc => ?_)
      | refine And.intro ?_ ?_
      | intro b
      | refine stp ?_
      | refine TQ.finC ?_
      | refine TQ.finC2 ?_
      | refine TQ.finC3 ?_
      | refine ⟨fun hc => ?_, fun hc => ?_⟩
      | refine Ei.f ?_
      | refine ⟨?_, ?_⟩
      | intro b
      | exact absurd rfl hc
      | exact absurd hc (by decide)
      | omega
      | (dsimp only; omega)
      | fail)
theorem pputD_at {c : Ctx} {q p P sz : Nat} {wh : List UInt8} {at_ : Nat} (u : FrameMode) (h : wh.length ≤ 256 ∧ 0 < sz ∧ sz ≤ 1048576 ∧ P ≤ 1048576 ∧ at_ < 4294967296) : SatD Try.prog c 33 [.pointer (some ⟨q, 0, none⟩), .int .u32 at_] u [poolV q p P sz wh] (fun u' L' => u' = u ∧ ∃ e wh', PutP P sz wh at_ e wh' ∧ L' = [poolV q p P sz wh']) := by
  refine SatD.openA1 ?_
  rintro ⟨a, k⟩ -
  refine (pputD_spec q p P sz k a wh at_ h.1 h.2.1 h.2.2.1 h.2.2.2.1 h.2.2.2.2 u).post ?_
  rintro u' L' ⟨h0, e, wh', h1, rfl⟩
  have hl : wh'.length = wh.length := h1.len
  exact ⟨_, Imp.shutA1 (a, k) trivial (by dsimp only; rw [hl]; exact Imp.refl _), h0, e, wh', h1, rfl⟩
attribute [local irreducible] readE
theorem answer_spec (d p r q m P hd sz : Nat) (bl nx : Int) (fl : Bool) (bs wh : List UInt8) (lt : List Bool) (K : AC) (a : Ask) (hK : atJ K hd = some a) (ha : a.at_ + 1041 ≤ bs.length) (hbs : bs.length ≤ 1048576) (hw : wh.length ≤ 256) (hP : P ≤ 1048576) (hhd : hd < 65536) (hsz : sz < 4294967296) :
    Sat Try.prog 60 [.pointer (some ⟨d, 0, none⟩), .agg #[.int .u16 (hd : Nat), .int .u32 (sz : Nat)]] [row 79 d [.pointer (some ⟨p, 0, none⟩), .pointer (some ⟨r, 0, none⟩), .pointer (some ⟨q, 0, none⟩), .int .u32 bl, .map (some m), .int .u32 nx, .bool fl], memA p bs lt, mapJ askV m (.u16, K), poolV q p P 1041 wh] (fun u L' => ∃ e wh', PutP P 1041 wh a.at_ e wh' ∧ u = .agg (blkV a.id a.block (ansE bs a.at_ sz)).toArray ∧ L' = [row 79 d [.pointer (some ⟨p, 0, none⟩), .pointer (some ⟨r, 0, none⟩), .pointer (some ⟨q, 0, none⟩), .int .u32 bl, .map (some m), .int .u32 nx, .bool fl], memA p bs lt, mapJ askV m (.u16, Pw.delJ K hd), poolV q p P 1041 wh']) := by
  intro c
  refine SatEC.calm ?_
  have hg1 : True := trivial
  have hg2 : True := trivial
  have hg6 : True := trivial
  all_goals
    refine SatEC.enterC Try.func60 rfl Try.ntmps60 rfl (fun R => ?_)
    try simp only [List.cons_append, List.nil_append]
    repeat' (first
      | (refine finAt ?_; have hz1 : sz = 1025 := (by omega); have hg0 : gt S 1024 = 0 := UInt8.toNat_inj.1 (by assumption); refine Fini.of ⟨e9, wh9, hp9, (by rw [ans_yes ha hz1 (by rw [hS]; exact hg0), ← ans_tk, hS]; rfl), rfl⟩ (by simp only [List.cons_append, List.nil_append]; repeat first | (apply Imp.pull; focus ((repeat first | with_reducible exact Del.head _ _ | with_reducible apply Del.tail); done)) | with_reducible exact Imp.refl _ | apply Imp.drop))
      | (refine finAt ?_; refine Fini.of ⟨e9, wh9, hp9, (by rw [ans_no ha (fun h1 h2 => by rw [hS] at h2; first | exact absurd h1 (by assumption) | exact absurd (congrArg UInt8.toNat h2) (by assumption))]; rfl), rfl⟩ (by simp only [List.cons_append, List.nil_append]; repeat first | (apply Imp.pull; focus ((repeat first | with_reducible exact Del.head _ _ | with_reducible apply Del.tail); done)) | with_reducible exact Imp.refl _ | apply Imp.drop))
      | (refine T.atSR 3 ?_; refine T.cutD 3 ⟨none, [], [{ target := .fn (.func 33) #[], args := #[.pointer (some ⟨q, 0, none⟩), .int .u32 (a.at_ : Nat)] }]⟩ [(0, .pointer (some ⟨d, 0, none⟩)), (3, .pointer (some ⟨b3, 0, none⟩)), (4, .pointer (some ⟨b4, 0, none⟩)), (5, .pointer (some ⟨b5, 0, none⟩))] ([row 79 d [.pointer (some ⟨p, 0, none⟩), .pointer (some ⟨r, 0, none⟩), .pointer (some ⟨q, 0, none⟩), .int .u32 bl, .map (some m), .int .u32 nx, .bool fl], memA p bs lt, mapJ askV m (.u16, Pw.delJ K hd), poolV q p P 1041 wh, row 132 b3 [.int .u16 (hd : Nat), .int .u32 (sz : Nat)], row 56 b4 [.int .u32 0, .int .u32 0, .string ⟨#[]⟩, .int .i64 0], row 94 b5 [.int .u32 (a.id : Nat), .int .u32 (a.block : Nat), .int .u32 (a.at_ : Nat)]] ++ R) rfl ?_ (fun g => ?_); rotate_left; simp only [List.cons_append, List.nil_append]; rotate_left)
      | (refine TQ.atCD ?_; refine TQ.cd rfl (by repeat first | exact trivial | refine ⟨rfl, ?_⟩) (Ent.imp (by simp only [List.cons_append, List.nil_append]; repeat first | (apply Imp.pull; focus ((repeat first | with_reducible exact Del.head _ _ | with_reducible apply Del.tail); done)) | with_reducible exact Imp.refl _ | apply Imp.drop)))
      | (refine atDN ?_; refine UN.df (xs := [.tmp 24, .tmp 26]) (first := []) (cap := []) (vs := [_, _]) rfl rfl rfl ⟨rfl, rfl, trivial⟩ rfl rfl ?_)
      | (refine T.atR 1 ?_; clear hg1; rename_i b3; obtain ⟨b4, hb4⟩ : ∃ x, x = b := ⟨_, rfl⟩; subst hb4)
      | (refine T.atR 2 ?_; clear hg2; obtain ⟨b5, hb5⟩ : ∃ x, x = b := ⟨_, rfl⟩; subst hb5; rw [hK]; simp only [Option.getD_some])
      | (refine T.atR 6 ?_; clear hg6; rw [ans_rd ha]; have hl9 := ans_len ha; generalize hS : (bs.drop (a.at_ + 16)).take 1025 = S at hl9; dsimp only)
      | (refine TQ.atOC ?_; refine TQ.outDC (f := 33) (cap := []) (ags := [.pointer (some ⟨q, 0, none⟩), .int .u32 (a.at_ : Nat)]) Try.call33 (pputD_at (p := p) (P := P) (sz := 1041) (wh := wh) .returning ⟨hw, by decide, by decide, hP, by omega⟩) (.cons (by repeat first | with_reducible exact Del.head _ _ | with_reducible apply Del.tail) (.nil _)) ?_; rintro u' L' ⟨rfl, e9, wh9, hp9, rfl⟩; refine ⟨rfl, ?_⟩; simp only [List.cons_append, List.nil_append]; refine TQ.finC ?_; refine Vc.mk rfl ?_)
      | refine T.pk 1 [7, 8] (.p 0 (.p 1 (.p 2 (.g 3 (.p 4 (.g 5 (.b2 6 (.n 7 (.n 8 .fin)) 7 (.d 6 (.n 8 .fin))))))))) ?_
      | refine T.pk 2 [6] (.p 0 (.p 1 (.d 2 (.g 3 (.d 4 (.g 5 (.n 6 .fin))))))) ?_
      | refine T.pk 3 [6] (.b2 0 (.b2 1 (.b2 2 (.b2 3 (.n 4 (.n 5 (.n 6 .fin))) 4 (.b2 3 (.n 5 (.n 6 .fin)) 5 (.n 3 (.n 6 .fin)))) 4 (.b2 2 (.b2 3 (.n 5 (.n 6 .fin)) 5 (.n 3 (.n 6 .fin))) 5 (.n 2 (.n 3 (.n 6 .fin))))) 4 (.b2 1 (.b2 2 (.b2 3 (.n 5 (.n 6 .fin)) 5 (.n 3 (.n 6 .fin))) 5 (.n 2 (.n 3 (.n 6 .fin)))) 5 (.n 1 (.n 2 (.n 3 (.n 6 .fin)))))) 4 (.b2 0 (.b2 1 (.b2 2 (.b2 3 (.n 5 (.n 6 .fin)) 5 (.n 3 (.n 6 .fin))) 5 (.n 2 (.n 3 (.n 6 .fin)))) 5 (.n 1 (.n 2 (.n 3 (.n 6 .fin))))) 5 (.n 0 (.n 1 (.n 2 (.n 3 (.n 6 .fin))))))) ?_
      | refine T.pk 5 [7] (.p 0 (.p 1 (.d 2 (.g 3 (.d 4 (.g 5 (.p 6 (.n 7 (.p 8 (.p 9 (.p 10 (.p 11 (.p 12 .fin))))))))))))) ?_
      | refine And.intro (fun hc => ?_) (fun hc => ?_)
      | refine And.intro ?_ ?_
      | intro b
      | ((first | refine atDS ?_ | refine atDSK ?_ | refine atDN ?_); refine stk ?_)
      | refine stp ?_
      | refine TQ.finC ?_
      | refine TQ.finC2 ?_
      | refine TQ.finC3 ?_
      | refine ⟨fun hc => ?_, fun hc => ?_⟩
      | refine Ei.f ?_
      | refine ⟨?_, ?_⟩
      | intro b
      | exact absurd rfl hc
      | exact absurd hc (by decide)
      | omega
      | (dsimp only; omega)
      | fail)

end Go.Proofs.Ytfgpnipnaaeafaa

