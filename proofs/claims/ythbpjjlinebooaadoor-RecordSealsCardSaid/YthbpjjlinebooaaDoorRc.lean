/- Lemmas for the proofs of this seat: no statement of the seat is claimed here. -/
import Derived.Test.YthbpjjlinebooaaDoorRb
set_option linter.all false

namespace Go.Proofs.YthbpjjlinebooaaDoor
open Go Pw
set_option maxRecDepth 20000
set_option maxHeartbeats 4000000
set_option maxHeartbeats 4000000
attribute [local irreducible] fltE lngE takeE
theorem take_5 (p n k : Nat) (a : Option Addr) (bs : List UInt8) (ch : UInt8) (hl : bs.length = n) (hn32 : n < 4294967296) (hn : 5 ≤ bs.length) :
    Sat Tryd.prog 31 [.pointer (some ⟨p, 0, none⟩), .int .u8 ch.toNat] [Pw.row 80 p [.slice a n k, .int .i64 0, .bool true], sl 5 1 (.slice a n k) n (bs.map byteV)] (fun u L' => ∃ a k, u = asResult (resV (takeE bs ch).2.2) ∧ L' = [Pw.row 80 p [.slice a (takeE bs ch).1.length k, .int .i64 ((takeE bs ch).2.1 : Nat), .bool true], sl 5 1 (.slice a (takeE bs ch).1.length k) (takeE bs ch).1.length ((takeE bs ch).1.map byteV)]) := by
  have hbl : (bs ++ [ch]).length = n + 1 := by rw [List.length_append, hl]; rfl
  have hln := lng_lt (bs ++ [ch])
  all_goals
    refine Sat.enter Tryd.func31 rfl Tryd.ntmps31 rfl (fun c R => ?_)
    try simp only [List.cons_append, List.nil_append]
    repeat' (first
      | (exact absurd hc (by decide))
      | exact absurd rfl hc
      | (refine Vc.mk ⟨by omega, by omega⟩ ?_)
      | (have hT := take_n (b := bs) (c := ch) (by omega); rw [hT]; dsimp only; rw [hbl, flt_0 (by omega)]; exact Fini.of ⟨_, _, rfl, rfl⟩ (by repeat first | exact Imp.refl _ | (apply Imp.pull; focus ((repeat first | exact Del.head _ _ | apply Del.tail); done)) | apply Imp.drop))
      | (refine T.atR 9 ?_; refine T.osl (e := 5) ?_ (fun bt j rest e1 e2 hr hlr => ?_); rotate_left; subst e1 e2; refine Hold.h ?_)
      | refine T.pl 7 [20] (.p 0 (.p 1 (.d 2 (.d 3 (.p 4 (.p 5 (.p 6 (.p 7 (.d 8 (.d 9 (.p 10 (.p 11 (.p 12 (.p 13 (.p 14 (.p 15 (.p 19 (.p 16 (.b2 17 (.p 18 (.n 20 (.p 21 (.p 22 (.p 23 .fin))))) 20 (.p 21 (.d 17 (.p 18 (.p 22 (.p 23 .fin)))))))))))))))))))))))) ?_
      | refine T.pk 9 [13, 14] (.p 0 (.p 1 (.p 6 (.p 7 (.p 2 (.g 3 (.p 8 (.g 9 (.p 10 (.g 11 (.b2 4 (.g 5 (.p 12 (.n 13 (.n 14 .fin)))) 13 (.d 4 (.g 5 (.p 12 (.n 14 .fin))))))))))))))) ?_
      | refine And.intro (fun hc => ?_) (fun hc => ?_)
      | refine And.intro ?_ ?_
      | intro b
      | refine stk ?_
      | refine stp ?_
      | refine TQ.finC ?_
      | refine TQ.finC2 ?_
      | refine TQ.finC3 ?_
      | refine ⟨fun hc => ?_, fun hc => ?_⟩
      | refine Ei.f ?_
      | refine ⟨?_, ?_⟩
      | intro b
      | omega
      | (dsimp only; omega)
      |  fail)
    all_goals try refine Hold.mk ?_
    repeat' (first
      | (exact absurd hc (by decide))
      | exact absurd rfl hc
      | (refine Vc.mk ⟨by omega, by omega⟩ ?_)
      | (refine T.atR 11 ?_; refine T.ent (Ent.imp (Imp.slE (e := 5) (b := bt) (m := n + 1 + j) (by repeat (first | exact Del.head _ _ | apply Del.tail)) (by rw [List.length_append, List.length_map, hbl, hr]))) ?_; refine Hold.h ?_)
      | (rw [hbl]; omega)
      | refine T.pl 7 [20] (.p 0 (.p 1 (.d 2 (.d 3 (.p 4 (.p 5 (.p 6 (.p 7 (.d 8 (.d 9 (.p 10 (.p 11 (.p 12 (.p 13 (.p 14 (.p 15 (.p 19 (.p 16 (.b2 17 (.p 18 (.n 20 (.p 21 (.p 22 (.p 23 .fin))))) 20 (.p 21 (.d 17 (.p 18 (.p 22 (.p 23 .fin)))))))))))))))))))))))) ?_
      | refine T.pk 9 [13, 14] (.p 0 (.p 1 (.p 6 (.p 7 (.p 2 (.g 3 (.p 8 (.g 9 (.p 10 (.g 11 (.b2 4 (.g 5 (.p 12 (.n 13 (.n 14 .fin)))) 13 (.d 4 (.g 5 (.p 12 (.n 14 .fin))))))))))))))) ?_
      | refine And.intro (fun hc => ?_) (fun hc => ?_)
      | refine And.intro ?_ ?_
      | intro b
      | refine stk ?_
      | refine stp ?_
      | refine TQ.finC ?_
      | refine TQ.finC2 ?_
      | refine TQ.finC3 ?_
      | refine ⟨fun hc => ?_, fun hc => ?_⟩
      | refine Ei.f ?_
      | refine ⟨?_, ?_⟩
      | intro b
      | omega
      | (dsimp only; omega)
      |  fail)
    all_goals try refine Hold.mk ?_
    repeat' (first
      | (exact absurd hc (by decide))
      | exact absurd rfl hc
      | (refine Vc.mk ⟨by omega, by omega⟩ ?_)
      | (have hf := flt_0 (l := bs ++ [ch]) (by omega); have hT := take_s (b := bs) (c := ch) (by omega); rw [hT]; dsimp only; rw [← drop_eq hbl]; (try rw [hf]); exact Fini.of ⟨_, _, rfl, rfl⟩ (by repeat first | exact Imp.refl _ | (apply Imp.pull; focus ((repeat first | exact Del.head _ _ | apply Del.tail); done)) | apply Imp.drop))
      | refine T.pl 7 [20] (.p 0 (.p 1 (.d 2 (.d 3 (.p 4 (.p 5 (.p 6 (.p 7 (.d 8 (.d 9 (.p 10 (.p 11 (.p 12 (.p 13 (.p 14 (.p 15 (.p 19 (.p 16 (.b2 17 (.p 18 (.n 20 (.p 21 (.p 22 (.p 23 .fin))))) 20 (.p 21 (.d 17 (.p 18 (.p 22 (.p 23 .fin)))))))))))))))))))))))) ?_
      | refine T.pk 9 [13, 14] (.p 0 (.p 1 (.p 6 (.p 7 (.p 2 (.g 3 (.p 8 (.g 9 (.p 10 (.g 11 (.b2 4 (.g 5 (.p 12 (.n 13 (.n 14 .fin)))) 13 (.d 4 (.g 5 (.p 12 (.n 14 .fin))))))))))))))) ?_
      | refine And.intro (fun hc => ?_) (fun hc => ?_)
      | refine And.intro ?_ ?_
      | intro b
      | refine stk ?_
      | refine stp ?_
      | refine TQ.finC ?_
      | refine TQ.finC2 ?_
      | refine TQ.finC3 ?_
      | refine ⟨fun hc => ?_, fun hc => ?_⟩
      | refine Ei.f ?_
      | refine ⟨?_, ?_⟩
      | intro b
      | omega
      | (dsimp only; omega)
      | fail)

end Go.Proofs.YthbpjjlinebooaaDoor

