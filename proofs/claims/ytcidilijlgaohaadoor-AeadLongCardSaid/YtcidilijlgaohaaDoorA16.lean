/- Lemmas for the proofs of this seat: no statement of the seat is claimed here. -/
import Derived.Test.YtcidilijlgaohaaDoorA15
import Derived.Test.YtcidilijlgaohaaDoorPxI
set_option linter.all false
namespace Go.Proofs.YtcidilijlgaohaaDoor
open Go Pw
set_option maxRecDepth 20000
set_option maxHeartbeats 4000000
set_option maxHeartbeats 1000000
instance : StrT Tryd.prog 9 := ⟨Tryd.underlying9⟩
instance {L : List Assn} {key tx : List UInt8} : FnR Tryd.prog 13 [str key, str tx] L (fun q => Vc (tx.length < 4294967296) (q (asResult [str (TagE key tx).1, .int .i64 ((TagE key tx).2 : Nat)]) L)) := ⟨fun q h => ⟨[], L, _, Tag_spec key tx h.l, .nil _, fun v L' hq => by rw [hq.1, hq.2]; exact h.r⟩⟩
instance {L : List Assn} {a b : List UInt8} : FnR Tryd.prog 15 [str a, str b] L (fun q => Vc (a.length < 4294967296) (q (.bool (decide (a = b))) L)) := ⟨fun q h => ⟨[], L, _, Same_spec a b h.l, .nil _, fun v L' hq => by rw [hq.1, hq.2]; exact h.r⟩⟩

def pad16 (n : Nat) : List UInt8 := List.replicate ((16 - n % 16) % 16) 0
def gatherE (ad c : List UInt8) : List UInt8 := ad ++ pad16 ad.length ++ c ++ pad16 c.length ++ leB ad.length 8 ++ leB c.length 8
/-- The tag of what was enciphered. -/
def sealE (key nonce ad c : List UInt8) : List UInt8 := (TagE ((blockE key nonce 0).take 32) (gatherE ad c)).1
theorem gatherE_len (ad c : List UInt8) : (gatherE ad c).length ≤ ad.length + c.length + 46 := by
  simp only [gatherE, pad16, List.length_append, List.length_replicate, leB_len]; omega
attribute [local irreducible] leB TagE
theorem tag_spec (key nonce ad cc : List UInt8) (h1 : key.length = 32) (h2 : nonce.length = 12) (ha : ad.length < 262144) (hc : cc.length < 262144) :
    Sat Tryd.prog 38 [str key, str nonce, str ad, str cc] [quA] (fun u L' => u = str (sealE key nonce ad cc) ∧ L' = [quA]) := by
  all_goals
    refine Sat.enter Tryd.func38 rfl Tryd.ntmps38 rfl (fun c R => ?_)
    try simp only [List.cons_append, List.nil_append]
    repeat' (first
      | (refine T.atB 0 ?_; refine T.ent (Ent.nil (e := 5) (sz := 1)) ?_; refine T.unb 0 2 ?_)
      | (refine T.atB 2 ?_; refine T.unb 2 2 ?_)
      | refine Vc.mk ⟨h1, h2, by decide⟩ ?_
      | (refine Vc.mk (by first | (simp only [true_and, and_true, List.length_append, List.length_map, List.length_replicate, leB_len, blockE_len, List.length_nil, List.nil_append, Nat.zero_add, List.length_take, List.length_drop]; done) | (simp only [true_and, and_true, List.length_append, List.length_map, List.length_replicate, leB_len, blockE_len, List.length_nil, List.nil_append, Nat.zero_add, List.length_take, List.length_drop]; omega)) ?_)
      | (first | (simp only [List.length_map, blockE_len, List.length_replicate]; done) | (simp only [List.length_map, blockE_len, List.length_replicate]; omega))
      | exact Fini.mk ⟨rfl, rfl⟩
      | exact Fini.mk ⟨by rw [sealE, gatherE, pad16, pad16]; rfl, rfl⟩
      | refine T.pl 14 [4] (.p 0 (.p 2 (.d 1 (.d 3 (.n 4 (.p 5 (.p 6 (.p 7 (.p 8 (.p 9 .fin)))))))))) ?_
      | refine And.intro (fun hc => ?_) (fun hc => ?_)
      | refine And.intro ?_ ?_
      | intro b
      | refine stp ?_
      | refine TQ.finC ?_
      | refine ⟨fun hc => ?_, fun hc => ?_⟩
      | refine Ei.f ?_
      | refine ⟨?_, ?_⟩
      | intro b
      | omega
      | (dsimp only; omega)
      | fail)

end Go.Proofs.YtcidilijlgaohaaDoor
