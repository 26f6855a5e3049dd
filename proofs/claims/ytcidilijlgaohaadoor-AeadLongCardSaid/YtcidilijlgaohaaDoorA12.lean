/- Lemmas for the proofs of this seat: no statement of the seat is claimed here. -/
import Derived.Test.YtcidilijlgaohaaDoorA11
set_option linter.all false
namespace Go.Proofs.YtcidilijlgaohaaDoor
open Go Pw
set_option maxRecDepth 20000
set_option maxHeartbeats 4000000
set_option maxHeartbeats 400000
theorem turned_spec (key nonce tx : List UInt8) (h1 : key.length = 32) (h2 : nonce.length = 12) (hn : tx.length < 4294967296) :
    Sat Tryd.prog 37 [str key, str nonce, str tx] [quA] (fun u L' => u = str (turnedE key nonce tx) ∧ L' = [quA]) := by
  all_goals
    refine Sat.enter Tryd.func37 rfl Tryd.ntmps37 rfl (fun c R => ?_)
    try simp only [List.cons_append, List.nil_append]
    repeat' (first
      | (refine T.atG ?_; rename_i b3 b4 yb k0 b8 bs; obtain ⟨bn, hbn⟩ : ∃ bn, bn = b := ⟨_, rfl⟩; subst hbn; refine T.open_sl (e := 5) (by repeat (first | exact Del.head _ _ | apply Del.tail)) (fun h _ _ => by cases h) (fun y9 k9 rest e1 e2 e3 => ?_); cases e1; refine T.rng (A := row 35 bs [.slice (some ⟨yb, 0, none⟩) tx.length (tx.length + k9)] :: row 3 bn [.int .i64 ((64 : Nat) : Int)] :: [row 5 yb (tx.map byteV ++ rest), row 22 b8 [.int .u32 0], row 9 b3 [str key], row 9 b4 [str nonce], quA]) (first := []) (cap := [.pointer (some ⟨bs, 0, none⟩), .pointer (some ⟨bn, 0, none⟩)]) rfl Tryd.call42 (PickC.h) (fun L1 => L1 = row 35 bs [.slice (some ⟨yb, 0, none⟩) tx.length (tx.length + k9)] :: row 3 bn [.int .i64 ((64 : Nat) : Int)] :: (fun j => [row 5 yb ((turnP key nonce tx (64 * j)).map byteV ++ rest), row 22 b8 [.int .u32 ((j : Nat) : Int)], row 9 b3 [str key], row 9 b4 [str nonce], quA]) ((tx.length + 63) / 64)) ?_ ?_)
      | (intro l m fn; have hH : [row 5 yb (tx.map byteV ++ rest), row 22 b8 [.int .u32 0], row 9 b3 [str key], row 9 b4 [str nonce], quA] = (fun j => [row 5 yb ((turnP key nonce tx (64 * j)).map byteV ++ rest), row 22 b8 [.int .u32 ((j : Nat) : Int)], row 9 b3 [str key], row 9 b4 [str nonce], quA]) 0 := (by simp only [Nat.mul_zero, turnP_0]; rfl); rw [hH]; refine SatC.post (chunk64_spec yb tx.length (tx.length + k9) bs bn (fun j => [row 5 yb ((turnP key nonce tx (64 * j)).map byteV ++ rest), row 22 b8 [.int .u32 ((j : Nat) : Int)], row 9 b3 [str key], row 9 b4 [str nonce], quA]) hn (by omega) rfl rfl rfl (fun j hj => Yl.of1 (fun R => ?_))) (fun v L' h => ⟨_, rfl, h⟩); simp only [List.cons_append, List.nil_append])
      | (refine TQ.thenR ?_)
      | (refine T.atB 1 ?_; refine T.useE (fun g => turned_round yb b8 b3 b4 j key nonce tx rest h1 h2 hn hj))
      | (intro m L1 hL1; subst hL1; simp only [List.cons_append, List.nil_append]; refine TQ.shut (b := yb) (e := 5) (n := tx.length) (k := k9) (xs := (turnP key nonce tx (64 * ((tx.length + 63) / 64))).map byteV) (rest := rest) (by rw [List.length_map, turnP_len]) (by omega) ?_)
      | (rw [turnP_ge (by omega)]; refine TQ.finM (Fini.mk ⟨rfl, rfl⟩))
      | refine T.pl 10 [9] (.p 0 (.p 1 (.p 4 (.p 5 (.d 2 (.d 3 (.d 6 (.p 7 (.d 8 (.n 9 .fin)))))))))) ?_
      | refine And.intro (fun hc => ?_) (fun hc => ?_)
      | refine And.intro ?_ ?_
      | intro b
      | refine stp ?_
      | refine TQ.finC ?_
      | refine ⟨fun hc => ?_, fun hc => ?_⟩
      | refine Ei.f ?_
      | refine ⟨?_, ?_⟩
      | intro b
      | omega
      | (dsimp only; omega)
      | fail)
instance {L : List Assn} {R : List Assn} {key nonce tx : List UInt8} [hd : DelC quA L R] : FnR Tryd.prog 37 [str key, str nonce, str tx] L (fun q => Vc (key.length = 32 ∧ nonce.length = 12 ∧ tx.length < 4294967296) (q (str (turnedE key nonce tx)) (quA :: R))) := ⟨fun q h => ⟨_, R, _, turned_spec key nonce tx h.l.1 h.l.2.1 h.l.2.2, Pick.of1 hd.h, fun v L' hq => by rw [hq.1, hq.2]; exact h.r⟩⟩

end Go.Proofs.YtcidilijlgaohaaDoor
