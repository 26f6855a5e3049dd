/- Lemmas for the proofs of this seat: no statement of the seat is claimed here. -/
import Derived.Test.YthbpjjlinebooaaDoorRa
set_option linter.all false

namespace Go.Proofs.YthbpjjlinebooaaDoor
open Go Pw
set_option maxRecDepth 20000
set_option maxHeartbeats 4000000
set_option maxHeartbeats 1000000
theorem asks_spec  :
    Sat Tryd.prog 49 [] [] (fun u L' => u = .agg [.nilFunc, .func (.func 68) #[] #[], .func (.func 69) #[] #[], .nilFunc, .nilFunc, .func (.func 70) #[] #[]].toArray ∧ L' = []) := by
  all_goals
    refine Sat.enter Tryd.func49 rfl Tryd.ntmps49 rfl (fun c R => ?_)
    try simp only [List.cons_append, List.nil_append]
    repeat' (first
      | exact Fini.mk ⟨rfl, rfl⟩
      | refine And.intro (fun hc => ?_) (fun hc => ?_)
      | refine And.intro ?_ ?_
      | intro b
      | refine stp ?_
      | refine TQ.finC ?_
      | refine TQ.finC2 ?_
      | refine TQ.finC3 ?_
      | refine ⟨fun hc => ?_, fun hc => ?_⟩
      | refine Ei.f ?_
      | refine ⟨?_, ?_⟩
      | intro b
      | omega
      | (dsimp only; omega)
      | fail)
instance {L : List Assn}  : FnR Tryd.prog 49 [] L (fun kk => Vc (True) (kk (.agg [.nilFunc, .func (.func 68) #[] #[], .func (.func 69) #[] #[], .nilFunc, .nilFunc, .func (.func 70) #[] #[]].toArray) L)) := ⟨fun kk h => ⟨[], L, _, asks_spec, .nil _, fun v L' hq => by rw [hq.1, hq.2]; exact h.r⟩⟩

def resV : Option (Nat × List UInt8) → List Value
  | none => [.agg (recV (0, [])).toArray, .bool false]
  | some r => [.agg (recV r).toArray, .bool true]
theorem take_n {b : List UInt8} {c : UInt8} (h : fltE (b ++ [c]) ≠ 0 ∨ (b ++ [c]).length < 5 ∨ (b ++ [c]).length < 5 + lngE (b ++ [c])) : takeE b c = (b ++ [c], fltE (b ++ [c]), none) := if_pos h
theorem take_s {b : List UInt8} {c : UInt8} (h : ¬ (fltE (b ++ [c]) ≠ 0 ∨ (b ++ [c]).length < 5 ∨ (b ++ [c]).length < 5 + lngE (b ++ [c]))) : takeE b c = ([], 0, some ((gt (b ++ [c]) 0).toNat, (b ++ [c]).drop 5)) := if_neg h
theorem Imp.slE {e : TypeId} {b m : Nat} {cs : List Value} {L R : List Assn} (h : Del (Pw.row e b cs) L R) (hm : cs.length = m) : Imp L (sl e 1 (.slice (some ⟨b, 0, none⟩) 0 m) 0 [] :: R) := by
  have h1 := Imp.sl (n := 0) (sz := 1) (k := m) (xs := []) (rest := cs) h rfl (by omega) (Imp.refl R)
  rw [Nat.zero_add] at h1
  exact h1
theorem flt_0 {l : List UInt8} (h : l.length ≠ 1 ∧ l.length ≠ 2 ∧ l.length ≠ 5) : fltE l = 0 := by
  unfold fltE; rw [if_neg h.1, if_neg h.2.1, if_neg h.2.2]
theorem drop_eq {l : List UInt8} {n : Nat} (h : l.length = n + 1) : l.drop 5 = List.take (n + 1 - 5) (List.drop (0 + (0 + 1) + (0 + 1) + (0 + 1) + (0 + 1) + (0 + 1)) l) := by
  rw [show 0 + (0 + 1) + (0 + 1) + (0 + 1) + (0 + 1) + (0 + 1) = 5 from rfl, List.take_of_length_le (by rw [List.length_drop]; omega)]
theorem drop_eq0 {l : List UInt8} (h : l.length = 5) : l.drop 5 = List.take (4 + 1 - 5) (List.drop 0 l) := by
  rw [List.drop_of_length_le (by omega)]; rfl
attribute [local irreducible] fltE lngE takeE
theorem take_0 (p n k : Nat) (a : Option Addr) (bs : List UInt8) (ch : UInt8) (hl : bs.length = n) (hn32 : n < 4294967296) (hn : bs.length = 0) :
    Sat Tryd.prog 31 [.pointer (some ⟨p, 0, none⟩), .int .u8 ch.toNat] [Pw.row 80 p [.slice a n k, .int .i64 0, .bool true], sl 5 1 (.slice a n k) n (bs.map byteV)] (fun u L' => ∃ a k, u = asResult (resV (takeE bs ch).2.2) ∧ L' = [Pw.row 80 p [.slice a (takeE bs ch).1.length k, .int .i64 ((takeE bs ch).2.1 : Nat), .bool true], sl 5 1 (.slice a (takeE bs ch).1.length k) (takeE bs ch).1.length ((takeE bs ch).1.map byteV)]) := by
  have hbl : (bs ++ [ch]).length = n + 1 := by rw [List.length_append, hl]; rfl
  have hln := lng_lt (bs ++ [ch])
  obtain rfl : n = 0 := by omega
  all_goals
    refine Sat.enter Tryd.func31 rfl Tryd.ntmps31 rfl (fun c R => ?_)
    try simp only [List.cons_append, List.nil_append]
    repeat' (first
      | (exact absurd hc (by decide))
      | exact absurd rfl hc
      | (refine Vc.mk ⟨by omega, by omega⟩ ?_)
      | (have hT := take_n (b := bs) (c := ch) (by omega); rw [hT]; dsimp only; rw [hbl]; exact Fini.of ⟨_, _, rfl, rfl⟩ (by repeat first | exact Imp.refl _ | (apply Imp.pull; focus ((repeat first | exact Del.head _ _ | apply Del.tail); done)) | apply Imp.drop))
      | refine T.pl 7 [20] (.p 0 (.p 1 (.d 2 (.d 3 (.p 4 (.p 5 (.p 6 (.p 7 (.d 8 (.d 9 (.p 10 (.p 11 (.p 12 (.p 13 (.p 14 (.p 15 (.p 19 (.p 16 (.b2 17 (.p 18 (.n 20 (.p 21 (.p 22 (.p 23 .fin))))) 20 (.p 21 (.d 17 (.p 18 (.p 22 (.p 23 .fin)))))))))))))))))))))))) ?_
      | refine T.pl 9 [13, 14] (.p 0 (.p 1 (.p 6 (.p 7 (.p 2 (.p 8 (.b3 3 (.b3 4 (.b3 5 (.b2 9 (.p 10 (.b2 11 (.p 12 (.n 13 (.n 14 .fin))) 13 (.d 11 (.p 12 (.n 14 .fin))))) 13 (.d 9 (.p 10 (.d 11 (.p 12 (.n 14 .fin)))))) 9 (.p 10 (.b3 5 (.b2 11 (.p 12 (.n 13 (.n 14 .fin))) 13 (.d 11 (.p 12 (.n 14 .fin)))) 11 (.b2 5 (.p 12 (.n 13 (.n 14 .fin))) 13 (.d 5 (.p 12 (.n 14 .fin)))) 13 (.d 5 (.d 11 (.p 12 (.n 14 .fin)))))) 13 (.d 5 (.d 9 (.p 10 (.d 11 (.p 12 (.n 14 .fin))))))) 9 (.p 10 (.b3 4 (.b3 5 (.b2 11 (.p 12 (.n 13 (.n 14 .fin))) 13 (.d 11 (.p 12 (.n 14 .fin)))) 11 (.b2 5 (.p 12 (.n 13 (.n 14 .fin))) 13 (.d 5 (.p 12 (.n 14 .fin)))) 13 (.d 5 (.d 11 (.p 12 (.n 14 .fin))))) 11 (.b2 4 (.b2 5 (.p 12 (.n 13 (.n 14 .fin))) 13 (.d 5 (.p 12 (.n 14 .fin)))) 13 (.d 4 (.d 5 (.p 12 (.n 14 .fin))))) 13 (.d 4 (.d 5 (.d 11 (.p 12 (.n 14 .fin))))))) 13 (.d 4 (.d 5 (.d 9 (.p 10 (.d 11 (.p 12 (.n 14 .fin)))))))) 9 (.p 10 (.b3 3 (.b3 4 (.b3 5 (.b2 11 (.p 12 (.n 13 (.n 14 .fin))) 13 (.d 11 (.p 12 (.n 14 .fin)))) 11 (.b2 5 (.p 12 (.n 13 (.n 14 .fin))) 13 (.d 5 (.p 12 (.n 14 .fin)))) 13 (.d 5 (.d 11 (.p 12 (.n 14 .fin))))) 11 (.b2 4 (.b2 5 (.p 12 (.n 13 (.n 14 .fin))) 13 (.d 5 (.p 12 (.n 14 .fin)))) 13 (.d 4 (.d 5 (.p 12 (.n 14 .fin))))) 13 (.d 4 (.d 5 (.d 11 (.p 12 (.n 14 .fin)))))) 11 (.b2 3 (.b2 4 (.b2 5 (.p 12 (.n 13 (.n 14 .fin))) 13 (.d 5 (.p 12 (.n 14 .fin)))) 13 (.d 4 (.d 5 (.p 12 (.n 14 .fin))))) 13 (.d 3 (.d 4 (.d 5 (.p 12 (.n 14 .fin)))))) 13 (.d 3 (.d 4 (.d 5 (.d 11 (.p 12 (.n 14 .fin)))))))) 13 (.d 3 (.d 4 (.d 5 (.d 9 (.p 10 (.d 11 (.p 12 (.n 14 .fin))))))))))))))) ?_
      | refine And.intro (fun hc => ?_) (fun hc => ?_)
      | refine And.intro ?_ ?_
      | intro b
      | refine stp ?_
      | refine TQ.finC ?_
      | refine TQ.finC2 ?_
      | refine TQ.finC3 ?_
      | refine ⟨fun hc => ?_, fun hc => ?_⟩
      | refine Ei.f ?_
      | refine ⟨?_, ?_⟩
      | intro b
      | omega
      | (dsimp only; omega)
      | fail)
theorem take_1 (p n k : Nat) (a : Option Addr) (bs : List UInt8) (ch : UInt8) (hl : bs.length = n) (hn32 : n < 4294967296) (hn : bs.length = 1) :
    Sat Tryd.prog 31 [.pointer (some ⟨p, 0, none⟩), .int .u8 ch.toNat] [Pw.row 80 p [.slice a n k, .int .i64 0, .bool true], sl 5 1 (.slice a n k) n (bs.map byteV)] (fun u L' => ∃ a k, u = asResult (resV (takeE bs ch).2.2) ∧ L' = [Pw.row 80 p [.slice a (takeE bs ch).1.length k, .int .i64 ((takeE bs ch).2.1 : Nat), .bool true], sl 5 1 (.slice a (takeE bs ch).1.length k) (takeE bs ch).1.length ((takeE bs ch).1.map byteV)]) := by
  have hbl : (bs ++ [ch]).length = n + 1 := by rw [List.length_append, hl]; rfl
  have hln := lng_lt (bs ++ [ch])
  obtain rfl : n = 1 := by omega
  all_goals
    refine Sat.enter Tryd.func31 rfl Tryd.ntmps31 rfl (fun c R => ?_)
    try simp only [List.cons_append, List.nil_append]
    repeat' (first
      | (exact absurd hc (by decide))
      | exact absurd rfl hc
      | (refine Vc.mk ⟨by omega, by omega⟩ ?_)
      | (have hT := take_n (b := bs) (c := ch) (by omega); rw [hT]; dsimp only; rw [hbl]; exact Fini.of ⟨_, _, rfl, rfl⟩ (by repeat first | exact Imp.refl _ | (apply Imp.pull; focus ((repeat first | exact Del.head _ _ | apply Del.tail); done)) | apply Imp.drop))
      | refine T.pl 7 [20] (.p 0 (.p 1 (.d 2 (.d 3 (.p 4 (.p 5 (.p 6 (.p 7 (.d 8 (.d 9 (.p 10 (.p 11 (.p 12 (.p 13 (.p 14 (.p 15 (.p 19 (.p 16 (.b2 17 (.p 18 (.n 20 (.p 21 (.p 22 (.p 23 .fin))))) 20 (.p 21 (.d 17 (.p 18 (.p 22 (.p 23 .fin)))))))))))))))))))))))) ?_
      | refine T.pl 9 [13, 14] (.p 0 (.p 1 (.p 6 (.p 7 (.p 2 (.p 8 (.b3 3 (.b3 4 (.b3 5 (.b2 9 (.p 10 (.b2 11 (.p 12 (.n 13 (.n 14 .fin))) 13 (.d 11 (.p 12 (.n 14 .fin))))) 13 (.d 9 (.p 10 (.d 11 (.p 12 (.n 14 .fin)))))) 9 (.p 10 (.b3 5 (.b2 11 (.p 12 (.n 13 (.n 14 .fin))) 13 (.d 11 (.p 12 (.n 14 .fin)))) 11 (.b2 5 (.p 12 (.n 13 (.n 14 .fin))) 13 (.d 5 (.p 12 (.n 14 .fin)))) 13 (.d 5 (.d 11 (.p 12 (.n 14 .fin)))))) 13 (.d 5 (.d 9 (.p 10 (.d 11 (.p 12 (.n 14 .fin))))))) 9 (.p 10 (.b3 4 (.b3 5 (.b2 11 (.p 12 (.n 13 (.n 14 .fin))) 13 (.d 11 (.p 12 (.n 14 .fin)))) 11 (.b2 5 (.p 12 (.n 13 (.n 14 .fin))) 13 (.d 5 (.p 12 (.n 14 .fin)))) 13 (.d 5 (.d 11 (.p 12 (.n 14 .fin))))) 11 (.b2 4 (.b2 5 (.p 12 (.n 13 (.n 14 .fin))) 13 (.d 5 (.p 12 (.n 14 .fin)))) 13 (.d 4 (.d 5 (.p 12 (.n 14 .fin))))) 13 (.d 4 (.d 5 (.d 11 (.p 12 (.n 14 .fin))))))) 13 (.d 4 (.d 5 (.d 9 (.p 10 (.d 11 (.p 12 (.n 14 .fin)))))))) 9 (.p 10 (.b3 3 (.b3 4 (.b3 5 (.b2 11 (.p 12 (.n 13 (.n 14 .fin))) 13 (.d 11 (.p 12 (.n 14 .fin)))) 11 (.b2 5 (.p 12 (.n 13 (.n 14 .fin))) 13 (.d 5 (.p 12 (.n 14 .fin)))) 13 (.d 5 (.d 11 (.p 12 (.n 14 .fin))))) 11 (.b2 4 (.b2 5 (.p 12 (.n 13 (.n 14 .fin))) 13 (.d 5 (.p 12 (.n 14 .fin)))) 13 (.d 4 (.d 5 (.p 12 (.n 14 .fin))))) 13 (.d 4 (.d 5 (.d 11 (.p 12 (.n 14 .fin)))))) 11 (.b2 3 (.b2 4 (.b2 5 (.p 12 (.n 13 (.n 14 .fin))) 13 (.d 5 (.p 12 (.n 14 .fin)))) 13 (.d 4 (.d 5 (.p 12 (.n 14 .fin))))) 13 (.d 3 (.d 4 (.d 5 (.p 12 (.n 14 .fin)))))) 13 (.d 3 (.d 4 (.d 5 (.d 11 (.p 12 (.n 14 .fin)))))))) 13 (.d 3 (.d 4 (.d 5 (.d 9 (.p 10 (.d 11 (.p 12 (.n 14 .fin))))))))))))))) ?_
      | refine And.intro (fun hc => ?_) (fun hc => ?_)
      | refine And.intro ?_ ?_
      | intro b
      | refine stp ?_
      | refine TQ.finC ?_
      | refine TQ.finC2 ?_
      | refine TQ.finC3 ?_
      | refine ⟨fun hc => ?_, fun hc => ?_⟩
      | refine Ei.f ?_
      | refine ⟨?_, ?_⟩
      | intro b
      | omega
      | (dsimp only; omega)
      | fail)

end Go.Proofs.YthbpjjlinebooaaDoor


namespace Go.Proofs.YthbpjjlinebooaaDoor
open Go Pw
set_option maxRecDepth 20000
set_option maxHeartbeats 4000000
set_option maxHeartbeats 1000000
attribute [local irreducible] fltE lngE takeE
theorem take_2 (p n k : Nat) (a : Option Addr) (bs : List UInt8) (ch : UInt8) (hl : bs.length = n) (hn32 : n < 4294967296) (hn : bs.length = 2) :
    Sat Tryd.prog 31 [.pointer (some ⟨p, 0, none⟩), .int .u8 ch.toNat] [Pw.row 80 p [.slice a n k, .int .i64 0, .bool true], sl 5 1 (.slice a n k) n (bs.map byteV)] (fun u L' => ∃ a k, u = asResult (resV (takeE bs ch).2.2) ∧ L' = [Pw.row 80 p [.slice a (takeE bs ch).1.length k, .int .i64 ((takeE bs ch).2.1 : Nat), .bool true], sl 5 1 (.slice a (takeE bs ch).1.length k) (takeE bs ch).1.length ((takeE bs ch).1.map byteV)]) := by
  have hbl : (bs ++ [ch]).length = n + 1 := by rw [List.length_append, hl]; rfl
  have hln := lng_lt (bs ++ [ch])
  obtain rfl : n = 2 := by omega
  all_goals
    refine Sat.enter Tryd.func31 rfl Tryd.ntmps31 rfl (fun c R => ?_)
    try simp only [List.cons_append, List.nil_append]
    repeat' (first
      | (exact absurd hc (by decide))
      | exact absurd rfl hc
      | (refine Vc.mk ⟨by omega, by omega⟩ ?_)
      | (have hT := take_n (b := bs) (c := ch) (by omega); rw [hT]; dsimp only; rw [hbl, flt_0 (by omega)]; exact Fini.of ⟨_, _, rfl, rfl⟩ (by repeat first | exact Imp.refl _ | (apply Imp.pull; focus ((repeat first | exact Del.head _ _ | apply Del.tail); done)) | apply Imp.drop))
      | refine T.pl 7 [20] (.p 0 (.p 1 (.d 2 (.d 3 (.p 4 (.p 5 (.p 6 (.p 7 (.d 8 (.d 9 (.p 10 (.p 11 (.p 12 (.p 13 (.p 14 (.p 15 (.p 19 (.p 16 (.b2 17 (.p 18 (.n 20 (.p 21 (.p 22 (.p 23 .fin))))) 20 (.p 21 (.d 17 (.p 18 (.p 22 (.p 23 .fin)))))))))))))))))))))))) ?_
      | refine T.pl 9 [13, 14] (.p 0 (.p 1 (.p 6 (.p 7 (.p 2 (.p 8 (.b3 3 (.b3 4 (.b3 5 (.b2 9 (.p 10 (.b2 11 (.p 12 (.n 13 (.n 14 .fin))) 13 (.d 11 (.p 12 (.n 14 .fin))))) 13 (.d 9 (.p 10 (.d 11 (.p 12 (.n 14 .fin)))))) 9 (.p 10 (.b3 5 (.b2 11 (.p 12 (.n 13 (.n 14 .fin))) 13 (.d 11 (.p 12 (.n 14 .fin)))) 11 (.b2 5 (.p 12 (.n 13 (.n 14 .fin))) 13 (.d 5 (.p 12 (.n 14 .fin)))) 13 (.d 5 (.d 11 (.p 12 (.n 14 .fin)))))) 13 (.d 5 (.d 9 (.p 10 (.d 11 (.p 12 (.n 14 .fin))))))) 9 (.p 10 (.b3 4 (.b3 5 (.b2 11 (.p 12 (.n 13 (.n 14 .fin))) 13 (.d 11 (.p 12 (.n 14 .fin)))) 11 (.b2 5 (.p 12 (.n 13 (.n 14 .fin))) 13 (.d 5 (.p 12 (.n 14 .fin)))) 13 (.d 5 (.d 11 (.p 12 (.n 14 .fin))))) 11 (.b2 4 (.b2 5 (.p 12 (.n 13 (.n 14 .fin))) 13 (.d 5 (.p 12 (.n 14 .fin)))) 13 (.d 4 (.d 5 (.p 12 (.n 14 .fin))))) 13 (.d 4 (.d 5 (.d 11 (.p 12 (.n 14 .fin))))))) 13 (.d 4 (.d 5 (.d 9 (.p 10 (.d 11 (.p 12 (.n 14 .fin)))))))) 9 (.p 10 (.b3 3 (.b3 4 (.b3 5 (.b2 11 (.p 12 (.n 13 (.n 14 .fin))) 13 (.d 11 (.p 12 (.n 14 .fin)))) 11 (.b2 5 (.p 12 (.n 13 (.n 14 .fin))) 13 (.d 5 (.p 12 (.n 14 .fin)))) 13 (.d 5 (.d 11 (.p 12 (.n 14 .fin))))) 11 (.b2 4 (.b2 5 (.p 12 (.n 13 (.n 14 .fin))) 13 (.d 5 (.p 12 (.n 14 .fin)))) 13 (.d 4 (.d 5 (.p 12 (.n 14 .fin))))) 13 (.d 4 (.d 5 (.d 11 (.p 12 (.n 14 .fin)))))) 11 (.b2 3 (.b2 4 (.b2 5 (.p 12 (.n 13 (.n 14 .fin))) 13 (.d 5 (.p 12 (.n 14 .fin)))) 13 (.d 4 (.d 5 (.p 12 (.n 14 .fin))))) 13 (.d 3 (.d 4 (.d 5 (.p 12 (.n 14 .fin)))))) 13 (.d 3 (.d 4 (.d 5 (.d 11 (.p 12 (.n 14 .fin)))))))) 13 (.d 3 (.d 4 (.d 5 (.d 9 (.p 10 (.d 11 (.p 12 (.n 14 .fin))))))))))))))) ?_
      | refine And.intro (fun hc => ?_) (fun hc => ?_)
      | refine And.intro ?_ ?_
      | intro b
      | refine stp ?_
      | refine TQ.finC ?_
      | refine TQ.finC2 ?_
      | refine TQ.finC3 ?_
      | refine ⟨fun hc => ?_, fun hc => ?_⟩
      | refine Ei.f ?_
      | refine ⟨?_, ?_⟩
      | intro b
      | omega
      | (dsimp only; omega)
      | fail)
theorem take_3 (p n k : Nat) (a : Option Addr) (bs : List UInt8) (ch : UInt8) (hl : bs.length = n) (hn32 : n < 4294967296) (hn : bs.length = 3) :
    Sat Tryd.prog 31 [.pointer (some ⟨p, 0, none⟩), .int .u8 ch.toNat] [Pw.row 80 p [.slice a n k, .int .i64 0, .bool true], sl 5 1 (.slice a n k) n (bs.map byteV)] (fun u L' => ∃ a k, u = asResult (resV (takeE bs ch).2.2) ∧ L' = [Pw.row 80 p [.slice a (takeE bs ch).1.length k, .int .i64 ((takeE bs ch).2.1 : Nat), .bool true], sl 5 1 (.slice a (takeE bs ch).1.length k) (takeE bs ch).1.length ((takeE bs ch).1.map byteV)]) := by
  have hbl : (bs ++ [ch]).length = n + 1 := by rw [List.length_append, hl]; rfl
  have hln := lng_lt (bs ++ [ch])
  obtain rfl : n = 3 := by omega
  all_goals
    refine Sat.enter Tryd.func31 rfl Tryd.ntmps31 rfl (fun c R => ?_)
    try simp only [List.cons_append, List.nil_append]
    repeat' (first
      | (exact absurd hc (by decide))
      | exact absurd rfl hc
      | (refine Vc.mk ⟨by omega, by omega⟩ ?_)
      | (have hT := take_n (b := bs) (c := ch) (by omega); rw [hT]; dsimp only; rw [hbl, flt_0 (by omega)]; exact Fini.of ⟨_, _, rfl, rfl⟩ (by repeat first | exact Imp.refl _ | (apply Imp.pull; focus ((repeat first | exact Del.head _ _ | apply Del.tail); done)) | apply Imp.drop))
      | refine T.pl 7 [20] (.p 0 (.p 1 (.d 2 (.d 3 (.p 4 (.p 5 (.p 6 (.p 7 (.d 8 (.d 9 (.p 10 (.p 11 (.p 12 (.p 13 (.p 14 (.p 15 (.p 19 (.p 16 (.b2 17 (.p 18 (.n 20 (.p 21 (.p 22 (.p 23 .fin))))) 20 (.p 21 (.d 17 (.p 18 (.p 22 (.p 23 .fin)))))))))))))))))))))))) ?_
      | refine T.pl 9 [13, 14] (.p 0 (.p 1 (.p 6 (.p 7 (.p 2 (.p 8 (.b3 3 (.b3 4 (.b3 5 (.b2 9 (.p 10 (.b2 11 (.p 12 (.n 13 (.n 14 .fin))) 13 (.d 11 (.p 12 (.n 14 .fin))))) 13 (.d 9 (.p 10 (.d 11 (.p 12 (.n 14 .fin)))))) 9 (.p 10 (.b3 5 (.b2 11 (.p 12 (.n 13 (.n 14 .fin))) 13 (.d 11 (.p 12 (.n 14 .fin)))) 11 (.b2 5 (.p 12 (.n 13 (.n 14 .fin))) 13 (.d 5 (.p 12 (.n 14 .fin)))) 13 (.d 5 (.d 11 (.p 12 (.n 14 .fin)))))) 13 (.d 5 (.d 9 (.p 10 (.d 11 (.p 12 (.n 14 .fin))))))) 9 (.p 10 (.b3 4 (.b3 5 (.b2 11 (.p 12 (.n 13 (.n 14 .fin))) 13 (.d 11 (.p 12 (.n 14 .fin)))) 11 (.b2 5 (.p 12 (.n 13 (.n 14 .fin))) 13 (.d 5 (.p 12 (.n 14 .fin)))) 13 (.d 5 (.d 11 (.p 12 (.n 14 .fin))))) 11 (.b2 4 (.b2 5 (.p 12 (.n 13 (.n 14 .fin))) 13 (.d 5 (.p 12 (.n 14 .fin)))) 13 (.d 4 (.d 5 (.p 12 (.n 14 .fin))))) 13 (.d 4 (.d 5 (.d 11 (.p 12 (.n 14 .fin))))))) 13 (.d 4 (.d 5 (.d 9 (.p 10 (.d 11 (.p 12 (.n 14 .fin)))))))) 9 (.p 10 (.b3 3 (.b3 4 (.b3 5 (.b2 11 (.p 12 (.n 13 (.n 14 .fin))) 13 (.d 11 (.p 12 (.n 14 .fin)))) 11 (.b2 5 (.p 12 (.n 13 (.n 14 .fin))) 13 (.d 5 (.p 12 (.n 14 .fin)))) 13 (.d 5 (.d 11 (.p 12 (.n 14 .fin))))) 11 (.b2 4 (.b2 5 (.p 12 (.n 13 (.n 14 .fin))) 13 (.d 5 (.p 12 (.n 14 .fin)))) 13 (.d 4 (.d 5 (.p 12 (.n 14 .fin))))) 13 (.d 4 (.d 5 (.d 11 (.p 12 (.n 14 .fin)))))) 11 (.b2 3 (.b2 4 (.b2 5 (.p 12 (.n 13 (.n 14 .fin))) 13 (.d 5 (.p 12 (.n 14 .fin)))) 13 (.d 4 (.d 5 (.p 12 (.n 14 .fin))))) 13 (.d 3 (.d 4 (.d 5 (.p 12 (.n 14 .fin)))))) 13 (.d 3 (.d 4 (.d 5 (.d 11 (.p 12 (.n 14 .fin)))))))) 13 (.d 3 (.d 4 (.d 5 (.d 9 (.p 10 (.d 11 (.p 12 (.n 14 .fin))))))))))))))) ?_
      | refine And.intro (fun hc => ?_) (fun hc => ?_)
      | refine And.intro ?_ ?_
      | intro b
      | refine stp ?_
      | refine TQ.finC ?_
      | refine TQ.finC2 ?_
      | refine TQ.finC3 ?_
      | refine ⟨fun hc => ?_, fun hc => ?_⟩
      | refine Ei.f ?_
      | refine ⟨?_, ?_⟩
      | intro b
      | omega
      | (dsimp only; omega)
      | fail)

end Go.Proofs.YthbpjjlinebooaaDoor

