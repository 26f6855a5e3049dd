/- Lemmas for the proofs of this seat: no statement of the seat is claimed here. -/
import Derived.Test.YtimaecgdahmmdaaKz
set_option linter.all false

namespace Go.Proofs.Ytimaecgdahmmdaa
open Go Pw
set_option maxRecDepth 20000
set_option maxHeartbeats 4000000
set_option synthInstance.maxHeartbeats 400000
set_option synthInstance.maxSize 4000
set_option maxHeartbeats 8000000

theorem sz2 : sizeE ((2 : Nat) : Int) = 66 := by decide +kernel
theorem sz4 : sizeE ((4 : Nat) : Int) = 118 := by decide +kernel
theorem pt2 : partN 2 = 44 := by decide +kernel
theorem pt4 : partN 4 = 80 := by decide +kernel
theorem lay0 : Lay 0 2 80 2 160 128 672 := ⟨by decide, by decide, by decide, by decide, by decide +kernel, by decide +kernel, by decide, by decide, by decide +kernel, by decide +kernel, by decide, by decide, by decide, by decide⟩
theorem nsz0 : nszN 2 2 128 = 672 := by decide +kernel
abbrev sW : List UInt8 := List.replicate 10 0 ++ [1, 0] ++ List.replicate 60 120
theorem frW : frmE sW = (List.replicate 60 120, true) := by decide +kernel
theorem tx0 {A n N : Nat} (h1 : 1 ≤ n) (h2 : n ≤ 64) (h3 : A ≤ 1048576) (h4 : N ≤ 1048576) : TxI A n N [] (List.replicate n false) 0 0 := ⟨rg0 h1 (by omega) h3 h4, List.length_replicate, fun y h => absurd h List.not_mem_nil⟩
theorem zero_ix {bs : List UInt8} {A n N : Nat} (hb : bs.length = N) (hN : A + partN n + 4 ≤ N) (h : ∀ i, i < 2 → bs[A + partN n + 2 + i]? = some 0) : ixE bs A n = 0 := by
  unfold ixE
  refine numE_put (cs := bs) (by decide) (by omega) fun i hi => ?_
  rw [h i hi]
  match i, hi with
  | 0, _ => rfl
  | 1, _ => rfl
theorem wk_recv {X X' : XC} {tk tk' : List Bool} {nx nx' ls' lo' k e : Nat} {bs bs' : List UInt8} {br' : Bool} {fr' : List (List UInt8)} (h : NewP 0 2 80 2 160 128 672 X tk nx bs) (hr : RecvP 0 2 160 128 672 (LTn 0 2 80 2 160 128 672 2) (brB bs 0 2 0 0 (160 + 128 * 0) sW) 0 false 0 k e X' tk' nx' ls' br' bs' lo' fr') : e = 0 ∧ fr' = [List.replicate 60 120] ∧ X'.length = 2 ∧ bs'.length = 672 ∧ ixE bs' 80 2 = 0 := by
  have g := LTn_geo lay0
  have hs : sW.length ≤ 128 := by decide
  have h1 := br_ix (k := 0) (h := 0) (s := sW) g h.bl (by decide) hs
  have h2 := br_ent (k := 0) (h := 0) (s := sW) g h.bl (by decide) hs
  have h3 := br_fr (k := 0) (h := 0) (s := sW) g h.bl (by decide) hs
  have hd : dstE (brB bs 0 2 0 0 (160 + 128 * 0) sW) 0 2 0 = 1 := by unfold dstE; rw [h1]
  have he : e = 0 := hr.good rfl (by rw [hd]; decide) fun j hj => by
    rw [hd] at hj
    have : j = 0 := by omega
    subst this
    rw [show (0 + 0) % 65536 = 0 from rfl, h2]
    exact ⟨by decide, hs⟩
  have hk : k = 1 := by
    rcases hr.fin with h4 | h4
    · omega
    · rw [hd] at h4; exact h4.2.2
  subst hk
  refine ⟨he, ?_, hr.rv.rx.xl, hr.rv.bl, ?_⟩
  · rw [hr.rv.fr]
    show [] ++ _ = _
    rw [show (0 + 0) % 65536 = 0 from rfl, h2, h3, frW]
    rfl
  · refine zero_ix hr.rv.bl (by rw [pt2]; decide) fun i hi => ?_
    rw [pt2, hr.rv.out _ (.inr (by rw [pt2]; omega)), br_out (k := 0) (h := 0) (s := sW) g h.bl (by decide) hs (.inr ⟨by rw [sz2]; omega, .inl (by omega)⟩), h.z _ (.inr (by rw [pt2]; omega)), rep_get (by omega)]
theorem wk_send {X' : XC} {tk' : List Bool} {nx' ls' lo' e : Nat} {bs bs' wh' : List UInt8} {br' : Bool} (hb : bs.length = 672) (hi : ixE bs 80 2 = 0) (h : SendP 80 (160 + 2 * 128) 128 (LTn 0 2 80 2 160 128 672 2) (List.replicate 60 121) bs [] (List.replicate 2 false) 0 0 false (List.replicate 2 0) 0 e bs' X' tk' nx' ls' br' wh' lo') : e = 0 ∧ X'.length = 1 := by
  obtain ⟨h1, _, _, _, _, _, _, h2⟩ := send_nil_ring lay0.txg hb (by decide) (by decide) (by decide) (tx0 (by decide) (by decide) (by decide) (by decide)) hi (by decide) (by decide) h
  obtain ⟨da, dk, ba, bk, rfl⟩ := h2.x
  exact ⟨h1, rfl⟩
instance {L R R1 R2 : List Assn} {p r A n nx ls k h nc : Nat} {x y z : Int} {br : Bool} {X : XC} {tk : List Bool} {bs s : List UInt8} {LT : List Bool} [h1 : RgAt L r p A X tk nx ls br R1] [h2 : MemAt R1 p bs LT R2] [h3 : RowDel R2 nc 38 [.int .u16 z] R] [hx : Nn x n] [hy : Nn y h] [hz : Nn z k] : FnR Try.prog 12 [.pointer (some ⟨p, 0, none⟩), .pointer (some ⟨r, 0, none⟩), .int .i64 x, .pointer (some ⟨nc, 0, none⟩), .int .u16 y, str s] L (fun kk => ∃ P bz N, (Geo A n P bz N LT ∧ RxI A n P bz N X tk nx ls ∧ bs.length = N ∧ h < n ∧ s.length ≤ bz ∧ k < 65536) ∧ kk (.bool true) (rgA r p A X tk nx ls br :: memA p (brB bs A n k h (P + bz * h) s) LT :: row 38 nc [.int .u16 (((k + 1) % 65536 : Nat) : Int)] :: R)) :=
  ⟨fun kk hh => by
    obtain ⟨P, bz, N, ⟨g1, g2, g3, g4, g5, g6⟩, h9⟩ := hh
    have h3' := h3.h
    rw [hz.h] at h3'
    exact ⟨_, R, _, by rw [hx.h, hy.h]; exact brings_rx p r A n P bz N nx ls k h nc br X tk bs s LT g1 g2 g3 g4 g5 g6, .cons h1.h (.cons h2.h (.cons h3' (.nil _))), fun v L' hv => by rw [hv.1, hv.2]; exact h9⟩⟩
instance {L R : List Assn} {p A1 n1 n2 bz : Nat} {x a b z : Int} {bs : List UInt8} {lt : List Bool} [h1 : MemAt L p bs lt R] [hx : Nn x A1] [ha : Nn a n1] [hb : Nn b n2] [hz : Nn z bz] : FnR Try.prog 9 [.pointer (some ⟨p, 0, none⟩), .int .u32 x, .agg #[.int .i64 a, .int .i64 b, .int .i64 z]] L (fun kk => ∃ A2 P N, (Lay A1 n1 A2 n2 P bz N ∧ bs = List.replicate N 0 ∧ lt = List.replicate N false) ∧ ∀ n r1 q1 m1 r2 q2 m2 X tk nx bs' wh, NewP A1 n1 A2 n2 P bz N X tk nx bs' → kk (.tuple #[.pointer (some ⟨n, 0, none⟩), .int .i64 0]) (row 81 n [.pointer (some ⟨p, 0, none⟩), .int .i64 (bz : Nat), .pointer (some ⟨r1, 0, none⟩), .pointer (some ⟨q1, 0, none⟩), .map (some m1), .int .i64 (0), .pointer (some ⟨r2, 0, none⟩), .pointer (some ⟨q2, 0, none⟩), .map (some m2), .int .i64 (0)] :: rgA r1 p A1 X tk nx 0 false :: rgA r2 p A2 [] (List.replicate n2 false) 0 0 false :: memA p bs' (LTn A1 n1 A2 n2 P bz N n1) :: mapJ u32W m1 (.u16, MX X) :: mapJ u32W m2 (.u16, MX []) :: poolV q1 p P bz wh :: poolV q2 p (P + n1 * bz) bz (List.replicate n2 0) :: R)) :=
  ⟨fun kk hh => by
    obtain ⟨A2, P, N, ⟨g1, rfl, rfl⟩, h9⟩ := hh
    exact ⟨_, R, _, by rw [hx.h, ha.h, hb.h, hz.h]; exact new_spec p A1 n1 A2 n2 P bz N g1, .cons h1.h (.nil _), fun v L' hv => by obtain ⟨n, r1, q1, m1, r2, q2, m2, X, tk, nx, bs', wh, f1, f2, f3⟩ := hv; rw [f2, f3]; exact h9 _ _ _ _ _ _ _ _ _ _ _ _ f1⟩⟩

end Go.Proofs.Ytimaecgdahmmdaa


namespace Go.Proofs.Ytimaecgdahmmdaa
open Go Pw
set_option maxRecDepth 20000
set_option maxHeartbeats 4000000
set_option synthInstance.maxHeartbeats 400000
set_option synthInstance.maxSize 4000
set_option maxHeartbeats 8000000

section
variable {P : Program} {r : Rd} {c : Ctx} {ns : List Nat} {ops : Array Oper} {Q : Exit → Env → Rd → World → Prop} {K : List Assn} {s : Sci} {L : List Assn} {E : Env}
theorem atUS (h : US P r c ns ops Q K s L E) : US P r c ns ops Q K s L E := h
theorem atUN {i : Nat} (h : UN P r c ns ops Q K i s L E) : UN P r c ns ops Q K i s L E := h
theorem atUSK (h : USK P r c ns ops Q K s L E) : USK P r c ns ops Q K s L E := h
end
attribute [local irreducible] LTn brB nszN
theorem works_spec  :
    Sat Try.prog 6 [] [] (fun u L' => u = .bool true ∧ L' = []) := by
  have hn0 := nsz0
  have hg2 : True := trivial
  have hg5 : True := trivial
  have hg10 : True := trivial
  have hg11 : True := trivial
  have hg12 : True := trivial
  all_goals
    refine Sat.enter Try.func6 rfl Try.ntmps6 rfl (fun c R => ?_)
    try simp only [List.cons_append, List.nil_append]
    repeat' (first
      | (refine T.atR 2 ?_; clear hg2; rw [nsz0])
      | (refine ⟨80, 160, 672, ⟨lay0, rfl, rfl⟩, ?_⟩)
      | (refine T.atR 5 ?_; clear hg5; rename_i nn r1 q1 m1 r2 q2 m2 X tk nx bs wh; have hnp := b)
      | (refine ⟨160, 128, 672, ⟨LTn_geo lay0, hnp.rx, hnp.bl, by decide, by decide, by decide⟩, ?_⟩)
      | (refine ⟨2, 160, 672, ⟨rfl, LTn_geo lay0, hnp.rx, br_len (LTn_geo lay0) hnp.bl (by decide) (by decide), by decide⟩, ?_⟩)
      | (refine T.atR 10 ?_; clear hg10; rename_i k1 e1 X1 tk1 nx1 ls1 br1 bs1 lo1 fr1 a9 k9; obtain ⟨rfl, rfl, hx1, hb1, hi1⟩ := wk_recv hnp b)
      | (refine ⟨2, 672, ⟨rfl, rfl, tx0 (by decide) (by decide) (by decide) (by decide), hb1, by decide, by decide, by decide, by decide, by decide, by decide, by decide⟩, ?_⟩)
      | (refine T.atR 11 ?_; clear hg11; rename_i e2 bs2 X2 tk2 nx2 ls2 br2 wh2 lo2; obtain ⟨rfl, hx2⟩ := wk_send hb1 hi1 b)
      | (refine T.atR 12 ?_; clear hg12; simp only [List.length_cons, List.length_nil, Nat.zero_add, List.map_cons, List.map_nil])
      | (refine atUS ?_; refine Pw.LkG.stkg ?_)
      | (exact Fini.of ⟨rfl, rfl⟩ (by repeat first | exact Imp.refl _ | (apply Imp.pull; focus ((repeat first | exact Del.head _ _ | apply Del.tail); done)) | apply Imp.drop))
      | refine T.pk 12 [14, 23, 24, 29, 30] (.p 0 (.p 1 (.p 2 (.p 3 (.p 4 (.p 5 (.p 6 (.p 7 (.p 8 (.p 9 (.p 10 (.p 11 (.b2 12 (.g 13 (.n 14 (.p 15 (.p 16 (.p 17 (.p 18 (.p 19 (.p 20 (.p 21 (.p 22 (.n 23 (.n 24 (.p 25 (.p 26 (.p 27 (.p 28 (.n 29 (.n 30 (.p 31 (.p 32 (.p 33 (.p 34 (.p 35 (.p 36 (.p 37 (.p 38 (.p 39 (.p 40 (.p 41 .fin))))))))))))))))))))))))))))) 14 (.d 12 (.g 13 (.p 15 (.p 16 (.p 17 (.p 18 (.p 19 (.p 20 (.p 21 (.p 22 (.n 23 (.n 24 (.p 25 (.p 26 (.p 27 (.p 28 (.n 29 (.n 30 (.p 31 (.p 32 (.p 33 (.p 34 (.p 35 (.p 36 (.p 37 (.p 38 (.p 39 (.p 40 (.p 41 .fin)))))))))))))))))))))))))))))))))))))))))) ?_
      | refine And.intro (fun hc => ?_) (fun hc => ?_)
      | refine And.intro ?_ ?_
      | intro b
      | ((first | refine atUS ?_ | refine atUSK ?_ | refine atUN ?_); refine stk ?_)
      | refine stp ?_
      | refine TQ.finC ?_
      | refine TQ.finC2 ?_
      | refine TQ.finC3 ?_
      | refine ⟨fun hc => ?_, fun hc => ?_⟩
      | refine Ei.f ?_
      | refine ⟨?_, ?_⟩
      | intro b
      | exact absurd rfl hc
      | exact absurd hc (by decide)
      | omega
      | (dsimp only; omega)
      | fail)

end Go.Proofs.Ytimaecgdahmmdaa

