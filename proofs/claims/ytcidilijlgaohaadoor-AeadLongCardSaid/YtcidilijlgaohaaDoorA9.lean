/- Lemmas for the proofs of this seat: no statement of the seat is claimed here. -/
import Derived.Test.YtcidilijlgaohaaDoorA8
import Derived.Test.YtcidilijlgaohaaDoorPxH
set_option linter.all false
namespace Go.Proofs.YtcidilijlgaohaaDoor
open Go Pw
set_option maxRecDepth 20000
set_option maxHeartbeats 4000000
set_option maxHeartbeats 400000
theorem chunk64_spec {c : Ctx} {l : Nat} {o : Loop} (b n cap bs bn : Nat) (H : Nat → List Assn) (hn : n < 4294967296) (hcap : n ≤ cap) (ho : o.params.size = 1) (h2 : o.state = .ready) (h3 : o.pending = none)
    (hy : ∀ j, 64 * j < n → Yl Tryd.prog c l o [.slice (some ⟨b, 64 * j, none⟩) (min 64 (n - 64 * j)) (min 64 (n - 64 * j))] (H j) (fun L1 => L1 = H (j + 1))) :
    SatC Tryd.prog c 42 [.func (.yield l) #[] #[], .pointer (some ⟨bs, 0, none⟩), .pointer (some ⟨bn, 0, none⟩)] (pt l (.loop o) :: row 35 bs [.slice (some ⟨b, 0, none⟩) n cap] :: row 3 bn [.int .i64 64] :: H 0) (fun _ L' => L' = pt l (.loop o) :: row 35 bs [.slice (some ⟨b, 0, none⟩) n cap] :: row 3 bn [.int .i64 64] :: H ((n + 63) / 64)) := by
  refine SatC.enter Tryd.func42 rfl Tryd.ntmps42 rfl (fun R => ?_)
  simp only [List.cons_append, List.nil_append]
  repeat' (first
    | (refine T.atB 0 ?_; refine T.lp 0 [(0, _), (1, _), (2, _)] (0 : Nat) (fun j => [(4, .int .i64 ((64 * j : Nat) : Int))]) (fun j => pt l (.loop o) :: row 35 bs [.slice (some ⟨b, 0, none⟩) n cap] :: row 3 bn [.int .i64 64] :: (H j ++ R)) (fun j => 64 * j ≤ n + 63) (fun j => n + 64 - 64 * j) (by repeat' first | exact trivial | refine ⟨?_, ?_⟩ | (conv => lhs; whnf)) ⟨rfl, trivial⟩ (by omega) (Ent.refl _ _) ?_; intro j g hI; simp only [List.cons_append, List.nil_append, appR])
    | (refine TQ.rd (j + 1) rfl ⟨by rw [Nat.mul_succ]; rfl, rfl, rfl, rfl, trivial⟩ (by omega) (by omega) (Ent.refl _ _))
    | (have ej : j = (n + 63) / 64 := (by omega); subst ej; exact Fini.mk (L' := pt l (.loop o) :: row 35 bs [.slice (some ⟨b, 0, none⟩) n cap] :: row 3 bn [.int .i64 64] :: H ((n + 63) / 64)) rfl)
    | refine T.pl 3 [] (.p 2 (.d 0 (.d 1 (.p 3 (.p 4 (.p 5 (.p 6 .fin))))))) ?_
    | refine And.intro (fun hc => ?_) (fun hc => ?_)
    | refine And.intro ?_ ?_
    | intro b
    | refine stp ?_
    | refine TQ.finC ?_
    | refine ⟨fun hc => ?_, fun hc => ?_⟩
    | refine Ei.f ?_
    | refine ⟨?_, ?_⟩
    | intro b
    | omega
    | (dsimp only; omega)
    | (dsimp only; refine TO.yl (hy j ‹_›) ?_ ho.symm h2 h3 ?_; rotate_left; rintro L1 rfl)
    | (rw [show 64 * j * (0 + 1) = 64 * j by omega, show 64 * j + min 64 (n - 64 * j) - 64 * j = min 64 (n - 64 * j) by omega])
    | fail)
theorem chunk16_spec {c : Ctx} {l : Nat} {o : Loop} (b n cap bs bn : Nat) (H : Nat → List Assn) (hn : n < 4294967296) (hcap : n ≤ cap) (ho : o.params.size = 1) (h2 : o.state = .ready) (h3 : o.pending = none)
    (hy : ∀ j, 16 * j < n → Yl Tryd.prog c l o [.slice (some ⟨b, 16 * j, none⟩) (min 16 (n - 16 * j)) (min 16 (n - 16 * j))] (H j) (fun L1 => L1 = H (j + 1))) :
    SatC Tryd.prog c 42 [.func (.yield l) #[] #[], .pointer (some ⟨bs, 0, none⟩), .pointer (some ⟨bn, 0, none⟩)] (pt l (.loop o) :: row 35 bs [.slice (some ⟨b, 0, none⟩) n cap] :: row 3 bn [.int .i64 16] :: H 0) (fun _ L' => L' = pt l (.loop o) :: row 35 bs [.slice (some ⟨b, 0, none⟩) n cap] :: row 3 bn [.int .i64 16] :: H ((n + 15) / 16)) := by
  refine SatC.enter Tryd.func42 rfl Tryd.ntmps42 rfl (fun R => ?_)
  simp only [List.cons_append, List.nil_append]
  repeat' (first
    | (refine T.atB 0 ?_; refine T.lp 0 [(0, _), (1, _), (2, _)] (0 : Nat) (fun j => [(4, .int .i64 ((16 * j : Nat) : Int))]) (fun j => pt l (.loop o) :: row 35 bs [.slice (some ⟨b, 0, none⟩) n cap] :: row 3 bn [.int .i64 16] :: (H j ++ R)) (fun j => 16 * j ≤ n + 15) (fun j => n + 16 - 16 * j) (by repeat' first | exact trivial | refine ⟨?_, ?_⟩ | (conv => lhs; whnf)) ⟨rfl, trivial⟩ (by omega) (Ent.refl _ _) ?_; intro j g hI; simp only [List.cons_append, List.nil_append, appR])
    | (refine TQ.rd (j + 1) rfl ⟨by rw [Nat.mul_succ]; rfl, rfl, rfl, rfl, trivial⟩ (by omega) (by omega) (Ent.refl _ _))
    | (have ej : j = (n + 15) / 16 := (by omega); subst ej; exact Fini.mk (L' := pt l (.loop o) :: row 35 bs [.slice (some ⟨b, 0, none⟩) n cap] :: row 3 bn [.int .i64 16] :: H ((n + 15) / 16)) rfl)
    | refine T.pl 3 [] (.p 2 (.d 0 (.d 1 (.p 3 (.p 4 (.p 5 (.p 6 .fin))))))) ?_
    | refine And.intro (fun hc => ?_) (fun hc => ?_)
    | refine And.intro ?_ ?_
    | intro b
    | refine stp ?_
    | refine TQ.finC ?_
    | refine ⟨fun hc => ?_, fun hc => ?_⟩
    | refine Ei.f ?_
    | refine ⟨?_, ?_⟩
    | intro b
    | omega
    | (dsimp only; omega)
    | (dsimp only; refine TO.yl (hy j ‹_›) ?_ ho.symm h2 h3 ?_; rotate_left; rintro L1 rfl)
    | (rw [show 16 * j * (0 + 1) = 16 * j by omega, show 16 * j + min 16 (n - 16 * j) - 16 * j = min 16 (n - 16 * j) by omega])
    | fail)

end Go.Proofs.YtcidilijlgaohaaDoor
