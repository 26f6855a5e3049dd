/- Lemmas for the proofs of this seat: no statement of the seat is claimed here. -/
import Derived.Test.YtimaecgdahmmdaaKy
set_option linter.all false

namespace Go.Proofs.Ytimaecgdahmmdaa
open Go Pw
set_option maxRecDepth 20000
set_option maxHeartbeats 4000000
set_option synthInstance.maxHeartbeats 400000
set_option synthInstance.maxSize 4000
set_option maxHeartbeats 8000000
instance (priority := 1500) {a b c : Value} : ElV [a, b, c] (0 * (2 + 1) + 0) a True := ⟨fun _ => rfl⟩
instance (priority := 1500) {a b c : Value} : ElV [a, b, c] (0 * (2 + 1) + 1) b True := ⟨fun _ => rfl⟩
attribute [local irreducible] writeE putB partN sizeE
theorem brings_rx (p r A n P bz N nx ls k h nc : Nat) (br : Bool) (X : XC) (tk : List Bool) (bs s : List UInt8) (LT : List Bool) (g : Geo A n P bz N LT) (i : RxI A n P bz N X tk nx ls) (hb : bs.length = N) (hh : h < n) (hs : s.length ≤ bz) (hk : k < 65536) :
    Sat Try.prog 12 [.pointer (some ⟨p, 0, none⟩), .pointer (some ⟨r, 0, none⟩), .int .i64 (n : Nat), .pointer (some ⟨nc, 0, none⟩), .int .u16 (h : Nat), str s] [rgA r p A X tk nx ls br, memA p bs LT, row 38 nc [.int .u16 (k : Nat)]] (fun u L' => u = .bool true ∧ L' = [rgA r p A X tk nx ls br, memA p (brB bs A n k h (P + bz * h) s) LT, row 38 nc [.int .u16 (((k + 1) % 65536 : Nat) : Int)]]) := by
  obtain ⟨ch, hX, hcd, hcl⟩ := i.full hh
  have hbf := g.buf hh
  have hN2 := g.N2
  have hPA := g.PA
  have hn2 := g.n2
  have hn0 := g.n0
  have htl := i.tl
  have hplt : partN tk.length = partN n := by rw [htl]
  have hA := i.ok.a
  have hkm := Nat.mod_lt k hn0
  have hpl := partN_le hn2
  have w1 := br_w1 g hb hh hs
  have hl1 : (putB bs (P + bz * h) s).length = N := by rw [putB_len (by omega), hb]
  have w2 := br_w2 (k := k) g hl1 (s8 := leB h 4 ++ leB s.length 4) (by rw [List.length_append, leB_len, leB_len])
  have hs2 := slotE_le g k
  have hl2 : (putB (putB bs (P + bz * h) s) (A + partN n + 4 + 8 * (k % n)) (leB h 4 ++ leB s.length 4)).length = N := by
    unfold slotE at hs2
    rw [putB_len (by rw [List.length_append, leB_len, leB_len]; omega), hl1]
  have w3 := br_w3 g hl2 (s2 := leB ((k + 1) % 65536) 2) (leB_len _ _)
  have hg2 : True := trivial
  have hg6 : True := trivial
  have hg9 : True := trivial
  have hg10 : True := trivial
  have hg11 : True := trivial
  all_goals
    refine Sat.enter Try.func12 rfl Try.ntmps12 rfl (fun c R => ?_)
    try simp only [List.cons_append, List.nil_append]
    repeat' (first
      | (refine ⟨ch, ⟨hX, by rw [hcl]; simp, by rw [hcl]; simp⟩, ?_⟩)
      | (refine T.atR 2 ?_; clear hg2; rw [hcl]; simp only [List.length_cons, List.length_nil, Nat.zero_add, List.flatMap_cons, List.flatMap_nil, List.append_nil, bufV])
      | (refine T.atR 5 ?_; exfalso; rw [w1] at *; omega)
      | (refine T.atR 6 ?_; clear hg6; rw [w1]; dsimp only)
      | (refine T.atR 10 ?_; clear hg10; rw [hplt, w2]; dsimp only)
      | (refine finAt ?_; rw [hplt, w3]; exact Fini.of ⟨rfl, rfl⟩ (by repeat first | exact Imp.refl _ | (apply Imp.pull; focus ((repeat first | exact Del.head _ _ | apply Del.tail); done)) | apply Imp.drop))
      | (rw [List.length_append, leB_len, leB_len]; omega)
      | (rw [leB_len]; omega)
      | (rw [leB_len, leB_len]; omega)
      | refine T.pk 9 [2, 15, 17, 19] (.p 0 (.p 1 (.p 4 (.p 5 (.p 8 (.p 13 (.p 14 (.p 16 (.g 6 (.p 7 (.p 9 (.p 10 (.p 11 (.n 2 (.p 3 (.p 12 (.n 15 (.n 17 (.p 18 (.n 19 (.p 20 .fin))))))))))))))))))))) ?_
      | refine T.pl 11 [5, 11, 12] (.p 0 (.p 1 (.p 2 (.p 3 (.p 4 (.p 7 (.p 8 (.b2 5 (.p 6 (.d 9 (.p 10 (.n 11 (.n 12 (.p 13 (.p 14 (.p 15 .fin)))))))) 9 (.p 10 (.n 5 (.p 6 (.n 11 (.n 12 (.p 13 (.p 14 (.p 15 .fin)))))))))))))))) ?_
      | refine And.intro (fun hc => ?_) (fun hc => ?_)
      | refine And.intro ?_ ?_
      | intro b
      | refine stk ?_
      | refine stp ?_
      | refine TQ.finC ?_
      | refine TQ.finC2 ?_
      | refine TQ.finC3 ?_
      | refine ⟨fun hc => ?_, fun hc => ?_⟩
      | refine Ei.f ?_
      | refine ⟨?_, ?_⟩
      | intro b
      | exact absurd rfl hc
      | exact absurd hc (by decide)
      | omega
      | (dsimp only; omega)
      | fail)

end Go.Proofs.Ytimaecgdahmmdaa

