/- Lemmas for the proofs of this seat: no statement of the seat is claimed here. -/
import Derived.Test.YtfgpnipnaaeafaaLd
import Derived.Test.YtfgpnipnaaeafaaLb
set_option linter.all false

namespace Go.Proofs.Ytfgpnipnaaeafaa
open Go Pw
set_option maxRecDepth 20000
set_option maxHeartbeats 4000000
set_option synthInstance.maxHeartbeats 400000
set_option synthInstance.maxSize 4000
set_option maxHeartbeats 8000000
theorem val_step {s : List UInt8} {m v : Nat} (hm : m < s.length) (h8 : s.length ≤ 8) (hv : v = leN (s.drop (m + 1))) : v * 2 ^ 8 % 18446744073709551616 ||| (gt s m).toNat = leN (s.drop m) := by
  have h1 : v < 256 ^ (s.length - (m + 1)) := by have := leN_lt (s.drop (m + 1)); rw [List.length_drop] at this; rw [hv]; exact this
  have h2 : (256 : Nat) ^ (s.length - (m + 1)) ≤ 256 ^ 7 := Nat.pow_le_pow_right (by decide) (by omega)
  have h3 : (256 : Nat) ^ 7 = 72057594037927936 := by decide
  have hb := UInt8.toNat_lt (gt s m)
  rw [Nat.mod_eq_of_lt (by omega), Nat.mul_comm, ← Nat.two_pow_add_eq_or_of_lt (i := 8) (by omega)]
  have hd : s.drop m = gt s m :: s.drop (m + 1) := by
    rw [List.drop_eq_getElem_cons hm]
    congr 1
    have := gt_get hm
    rw [List.getElem?_eq_getElem hm] at this
    exact Option.some.inj this
  rw [hd, hv]
  show _ = (gt s m).toNat + 256 * leN (s.drop (m + 1))
  omega
theorem value_spec (s : List UInt8) (hs : s.length ≤ 8) :
    Sat Try.prog 23 [str s] [] (fun u L' => u = .int .u64 (leN s : Nat) ∧ L' = []) := by
  all_goals
    refine Sat.enter Try.func23 rfl Try.ntmps23 rfl (fun c R => ?_)
    try simp only [List.cons_append, List.nil_append]
    repeat' (first
      | (refine T.atB 0 ?_; refine T.lpa 0 [(0, _), (2, _)] ((s.length, 0) : Nat × Nat) (fun z => [(4, .int .i64 ((z.1 : Int) - 1)), (3, .int .u64 (z.2 : Nat))]) (fun _ => []) (fun z => z.1 ≤ s.length ∧ z.2 = leN (s.drop z.1)) (fun z => z.1) ⟨Nat.le_refl _, by dsimp only; rw [List.drop_length]; rfl⟩ ?_; rintro ⟨m, v⟩ g ⟨hm, hv⟩; dsimp only at hm hv; have hv9 : v < 256 ^ (s.length - m) := (by have := leN_lt (s.drop m); rw [List.length_drop] at this; rw [hv]; exact this); dsimp only; rcases m with _ | m <;> first | (rw [show (((0 : Nat) : Int) - 1) = -1 from rfl]; simp only [List.cons_append, List.nil_append, appR]) | (rw [show (((m + 1 : Nat) : Int) - 1) = ((m : Nat) : Int) by omega]; simp only [List.cons_append, List.nil_append, appR]))
      | (refine finAt ?_; have hv0 : v = leN s := (by rw [hv]; rfl); rw [hv0]; refine Fini.of ⟨rfl, rfl⟩ ?_; exact (by simp only [List.cons_append, List.nil_append]; repeat first | (apply Imp.pull; focus ((repeat first | with_reducible exact Del.head _ _ | with_reducible apply Del.tail); done)) | with_reducible exact Imp.refl _ | apply Imp.drop))
      | (refine TQ.atL ?_; refine TQ.rd ((m, v * 2 ^ 8 % 18446744073709551616 ||| (gt s m).toNat) : Nat × Nat) rfl (by repeat first | exact trivial | refine ⟨rfl, ?_⟩) ⟨by dsimp only; omega, val_step (by omega) hs hv⟩ (by dsimp only; omega) (Ent.imp (by repeat first | exact Imp.refl _ | (apply Imp.pull; focus ((repeat first | exact Del.head _ _ | apply Del.tail); done)) | apply Imp.drop)))
      | (show -(9223372036854775808 : Int) ≤ _; omega)
      | (show _ < (9223372036854775808 : Int); omega)
      | refine And.intro (fun hc => ?_) (fun hc => ?_)
      | refine And.intro ?_ ?_
      | intro b
      | refine stp ?_
      | refine TQ.finC ?_
      | refine TQ.finC2 ?_
      | refine TQ.finC3 ?_
      | refine ⟨fun hc => ?_, fun hc => ?_⟩
      | refine Ei.f ?_
      | refine ⟨?_, ?_⟩
      | intro b
      | exact absurd rfl hc
      | exact absurd hc (by decide)
      | omega
      | (dsimp only; omega)
      | fail)
instance {L : List Assn} {s : List UInt8} : FnR Try.prog 23 [str s] L (fun kk => Vc (s.length ≤ 8) (kk (.int .u64 (leN s : Nat)) L)) := ⟨fun kk h => ⟨[], L, _, value_spec s h.l, .nil _, fun v L' hv => by rw [hv.1, hv.2]; exact h.r⟩⟩

end Go.Proofs.Ytfgpnipnaaeafaa


namespace Go.Proofs.Ytfgpnipnaaeafaa
open Go Pw
set_option maxRecDepth 20000
set_option maxHeartbeats 4000000
/-- What the device reads of a request that was asked, and what stays. -/
structure AskM (A n a hd b nx nx' N : Nat) (bs bs' : List UInt8) : Prop where
  nxE : nx' = (nx + 1) % 65536
  hdL : hd < n
  ixE : (numE bs' (A + 16 * n + 2) 2).1 = nx'
  enE : (numE bs' (A + 16 * n + 4 + 2 * (nx % n)) 2).1 = hd
  adE : ∀ j, j < 8 → bs'[A + 16 * hd + j]? = (leB a 8)[j]?
  nbE : (numE bs' (a + 8) 8).1 = b * 2
  outE : ∀ k, A + partN n ≤ k → k < a ∨ a + 1041 ≤ k → bs'[k]? = bs[k]?
theorem ask_mem {A n P S N b a hd nx nx' ls j : Nat} {X X' : XC} {K : AC} {tk tk' : List Bool} {wh : List UInt8} {lt lt' : List Bool} {bs bs' : List UInt8} (g : DLay A n P S N) (i : DskI A n P S N X K tk nx ls wh lt bs) (hj : j < S) (hz : gt wh j = 0) (ha : a = P + j * 1041) (hb : b < 4294967296) (hlr : ∀ k, A ≤ k → k < A + partN n → lt'[k]? = some false) (hl' : lt'.length = N) (h : AddP A (rdB bs lt a b) lt (lay a) X tk nx false hd 0 bs' lt' X' tk' nx') : AskM A n a hd b nx nx' N bs bs' := by
  have hN2 := g.N2
  have hPN := g.PN
  have hAP := g.AP
  have hsz := g.sz
  have hp := part_ge n
  have hm : j * 1041 + 1041 ≤ S * 1041 := by have := Nat.mul_le_mul_right 1041 (show j + 1 ≤ S by omega); omega
  have haN : a + 1041 ≤ N := by omega
  have hrl : (rdB bs lt a b).length = N := (rdB_len _ _ _ _).trans i.bl
  have hown : ∀ k, a ≤ k → k < a + 1041 → lt[k]? = some false := fun k h1 h2 => lentB_own g i hj hz (by omega) (by omega)
  obtain ⟨r1, r2⟩ := rdB_get (b := b) i.bl i.ll haN hown
  have htl := i.tl
  cases h with
  | no e _ _ h3 => exact absurd rfl h3
  | lent e lt2 _ _ _ h3 => exact absurd rfl h3
  | done lt2 bs2 da dk ba bk h1 h2 h3 h4 h5 h6 =>
    have hst := st_ok 3 (h2.ok rfl).2.2.2
    have hdl := hst.dl
    have h0 := hst.dd _ (gt_mem (show 0 < (stE tk 3).1.length by omega))
    have hx1 := hst.x1
    have hdn : gt (stE tk 3).1 0 < n := by omega
    rw [htl] at h5 h6
    obtain ⟨f1, f2, f3, f4⟩ := av_facts h5 g.n0 hrl hl' (by omega) (show gt (stE tk 3).1 0 < 65536 by have := g.n2; omega) (Nat.mod_lt _ (by decide)) hlr
    have hq := h6 (by rw [hrl]; omega) (fun k k1 k2 => hlr k k1 (by omega))
    refine ⟨rfl, hdn, f1, f2, hq, numE_put (by show _ < 18446744073709551616; omega) (by omega) fun q hq2 => ?_, fun k k1 k2 => ?_⟩
    · rw [f4 _ (by omega)]
      exact r1 q hq2
    · rw [f4 k (by omega)]
      exact r2 k k2
end Go.Proofs.Ytfgpnipnaaeafaa


namespace Go.Proofs.Ytfgpnipnaaeafaa
open Go Pw
set_option maxRecDepth 20000
set_option maxHeartbeats 4000000
instance {L R R1 R2 R3 R4 : List Assn} {d p r q m A P nx ls b bl dn : Nat} {x y z : Int} {bs wh : List UInt8} {lt tk : List Bool} {X : XC} {K : AC} [h1 : RowDel L d 79 [.pointer (some ⟨p, 0, none⟩), .pointer (some ⟨r, 0, none⟩), .pointer (some ⟨q, 0, none⟩), .int .u32 y, .map (some m), .int .u32 z, .bool false] R1] [h2 : RgAt R1 r p A X tk nx ls false R2] [h3 : MemAt R2 p bs lt R3] [h4 : PoAt R3 q p P 1041 wh R4] [h5 : Fam (mapJ askV) R4 m (.u16, K) R] [hx : Nn x b] [hy : Nn y bl] [hz : Nn z dn] : FnR Try.prog 15 [.pointer (some ⟨d, 0, none⟩), .int .u32 x] L (fun kk => ∃ n S N, (DLay A n P S N ∧ DskI A n P S N X K tk nx ls wh lt bs ∧ 3 * S ≤ n ∧ K.length < S ∧ b < bl ∧ bl ≤ 65536 ∧ dn < 4294967295) ∧ ∀ a hd bs' lt' X' tk' nx' wh', (DskI A n P S N X' (K ++ [(hd, ⟨dn, b, a⟩)]) tk' nx' ls wh' lt' bs' ∧ AskM A n a hd b nx nx' N bs bs') → kk (.tuple #[.int .u32 (dn : Nat), .int .i64 0]) (row 79 d [.pointer (some ⟨p, 0, none⟩), .pointer (some ⟨r, 0, none⟩), .pointer (some ⟨q, 0, none⟩), .int .u32 (bl : Nat), .map (some m), .int .u32 (dn + 1 : Nat), .bool false] :: rgA r p A X' tk' nx' ls false :: memA p bs' lt' :: poolV q p P 1041 wh' :: mapJ askV m (.u16, K ++ [(hd, ⟨dn, b, a⟩)]) :: R)) :=
  ⟨fun kk h => by
    obtain ⟨n, S, N, ⟨g, i, g3, g4, g5, g6, g7⟩, h9⟩ := h
    have hwl := i.wl
    have hPN := g.PN
    have hN2 := g.N2
    have hn2 := g.n2
    have h1' := h1.h
    rw [hy.h, hz.h] at h1'
    refine ⟨_, R, _, by rw [hx.h]; exact read_spec d p r q m A P N bl nx ls b dn false bs wh lt tk X K i.ok i.pr i.bl (by omega) (by omega) (by rw [hwl]; omega) g5 g6 g7, .cons h1' (.cons h2.h (.cons h3.h (.cons h4.h (.cons h5.h (.nil _))))), fun v L' hv => ?_⟩
    obtain ⟨id, e, dn', fl', bs', lt', X', tk', nx', K', wh', hr, rfl, rfl⟩ := hv
    obtain ⟨rfl, rfl, rfl, rfl, hI, a, hd, j, hj, hja, hjz, rfl, ha⟩ := i.read g g3 g4 hr
    exact h9 a hd bs' lt' X' tk' nx' wh' ⟨hI, ask_mem g i hj hjz hja (by omega) (hI.ring g) hI.ll ha⟩⟩
instance {L R R1 R2 : List Assn} {p r nc A nx0 ls0 n h k st : Nat} {x y z w : Int} {X : XC} {tk lt : List Bool} {bs dt : List UInt8} [h1 : RgAt L r p A X tk nx0 ls0 false R1] [h2 : MemAt R1 p bs lt R2] [h3 : RowDel R2 nc 39 [.int .u16 z] R] [hx : Nn x n] [hy : Nn y h] [hz : Nn z k] [hw : Nn w st] : FnR Try.prog 17 [.pointer (some ⟨p, 0, none⟩), .pointer (some ⟨r, 0, none⟩), .int .i64 x, .pointer (some ⟨nc, 0, none⟩), .int .u16 y, str dt, .int .u8 w] L (fun kk => ∃ P S N K wh a, (DLay A n P S N ∧ DskI A n P S N X K tk nx0 ls0 wh lt bs ∧ (h, a) ∈ K ∧ atJ K h = some a ∧ dt.length = 1024 ∧ A ≤ 1048576 ∧ h < 65536 ∧ k < 65536 ∧ st < 256) ∧ kk (.bool true) (rgA r p A X tk nx0 ls0 false :: memA p (svB bs dt A n a.at_ h k st) lt :: row 39 nc [.int .u16 (((k + 1) % 65536 : Nat) : Int)] :: R)) :=
  ⟨fun kk hh => by
    obtain ⟨P, S, N, K, wh, a, ⟨g, i, g1, g2, g3, g4, g5, g6, g7⟩, h9⟩ := hh
    have geo := i.geo g g1
    dsimp only at geo
    have hl1 := atJ_map (fun c : Ch => c.l) h X
    rw [i.pr.pr, atJ_map (fun a : Ask => lay a.at_) h K, g2] at hl1
    have hN2 := g.N2
    have haN := geo.aN
    have hsz := g.sz
    have hs1 := sizeE_le (n : Nat)
    have hn2 := g.n2
    have h3' := h3.h
    rw [hz.h] at h3'
    cases hX : atJ X h with
    | none => rw [hX] at hl1; cases hl1
    | some ch =>
      rw [hX] at hl1
      have hcl : ch.l = lay a.at_ := (Option.some.inj hl1).symm
      exact ⟨_, R, _, by rw [hx.h, hy.h, hw.h]; exact serves_spec p r A n nx0 ls0 k h nc a.at_ st false X tk bs _ _ _ _ dt lt ch hX hcl g3 (sv_w1 geo i.bl g3) (sv_w2 geo i.bl g3) (by rw [i.tl]; exact sv_w3 geo i.bl g3) (by rw [i.tl]; exact sv_w4 geo i.bl g3) g.n0 hn2 (by rw [i.tl]; exact hn2) (by rw [i.tl]; omega) g4 (by omega) g5 g6 g7, .cons h1.h (.cons h2.h (.cons h3' (.nil _))), fun v L' hv => by rw [hv.1, hv.2]; exact h9⟩⟩
theorem DskI.all {A n P S N nx ls : Nat} {X : XC} {K : AC} {tk : List Bool} {wh : List UInt8} {lt : List Bool} {bs : List UInt8} (i : DskI A n P S N X K tk nx ls wh lt bs) : AlI A N S nx ⟨X, tk, ls, false, K, wh, lt, [], none, 0⟩ := ⟨i.ok, i.pr, i.wl⟩
instance {L R R1 R2 R3 R4 : List Assn} {d p r q m A P nx ls n hd aa : Nat} {y z : Int} {bs dt wh : List UInt8} {lt tk : List Bool} {X : XC} {K : AC} [h1 : RowDel L d 79 [.pointer (some ⟨p, 0, none⟩), .pointer (some ⟨r, 0, none⟩), .pointer (some ⟨q, 0, none⟩), .int .u32 y, .map (some m), .int .u32 z, .bool false] R1] [h2 : RgAt R1 r p A X tk nx ls false R2] [h3 : MemAt R2 p (svB bs dt A n aa hd ls 0) lt R3] [h4 : Fam (mapJ askV) R3 m (.u16, K) R4] [h5 : PoAt R4 q p P 1041 wh R] : FnR Try.prog 19 [.pointer (some ⟨d, 0, none⟩)] L (fun kk => ∃ S N a, (DLay A n P S N ∧ DskI A n P S N X K tk nx ls wh lt bs ∧ (hd, a) ∈ K ∧ atJ K hd = some a ∧ aa = a.at_ ∧ hd < 65536 ∧ ls + 1 < 65536 ∧ dt.length = 1024 ∧ S ≤ 256) ∧ ∀ X' tk' wh' lt' oa ok, DskI A n P S N X' (Pw.delJ K hd) tk' nx (ls + 1) wh' lt' (svB bs dt A n aa hd ls 0) → kk (.tuple #[.slice oa 1 ok, .int .i64 0]) (row 79 d [.pointer (some ⟨p, 0, none⟩), .pointer (some ⟨r, 0, none⟩), .pointer (some ⟨q, 0, none⟩), .int .u32 y, .map (some m), .int .u32 z, .bool false] :: rgA r p A X' tk' nx (ls + 1) false :: memA p (svB bs dt A n aa hd ls 0) lt' :: mapJ askV m (.u16, Pw.delJ K hd) :: poolV q p P 1041 wh' :: Pw.sl 56 (3 + 1) (.slice oa 1 ok) 1 (([(a, some dt)] : List (Ask × Option (List UInt8))).flatMap obV) :: R)) :=
  ⟨fun kk hh => by
    obtain ⟨S, N, a, ⟨g, i, g1, g2, rfl, g4, g5, g6, g7⟩, h9⟩ := hh
    have geo := i.geo g g1
    dsimp only at geo
    have hN2 := g.N2
    have hPN := g.PN
    have one := one_all g i g2 g1 g4 g5 g6
    refine ⟨_, R, _, poll_good d p r q m A P N S nx ls y z false (svB bs dt A n a.at_ hd ls 0) wh lt tk X K i.all (svB_len geo i.bl g6) g7 (by omega) (fun s hs => by cases (one s true hs).1), .cons h1.h (.cons h2.h (.cons h3.h (.cons h4.h (.cons h5.h (.nil _))))), fun v L' hv => ?_⟩
    obtain ⟨s, hs, rfl, rfl⟩ := hv
    obtain ⟨_, ho, hk, hl, hbr, hI⟩ := one s false hs
    rw [hk, hl] at hI
    rw [ho, hk, hl, hbr]
    exact h9 _ _ _ _ _ _ hI⟩
end Go.Proofs.Ytfgpnipnaaeafaa

