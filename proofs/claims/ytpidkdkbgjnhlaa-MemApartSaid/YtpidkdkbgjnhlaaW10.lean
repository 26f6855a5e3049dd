/- Lemmas for the proofs of this seat: no statement of the seat is claimed here. -/
import Derived.Test.YtpidkdkbgjnhlaaW9
set_option linter.all false
namespace Go.Proofs.Ytpidkdkbgjnhlaa
open Go Pw
set_option maxRecDepth 20000
set_option maxHeartbeats 4000000
theorem turn_put (q p wb at0 sz at_ : Nat) (wh : List UInt8) (h0 : at0 < 4294967296) (hz : 0 < sz) (hz2 : sz ≤ 1048576) (hc : wh.length ≤ 256) (ha : at_ < 4294967296) (k : Nat) (hx : wh[k]? = some 1) (he : at_ = at0 + k * sz)  :
    Sat Try.prog 49 [.pointer (some ⟨q, 0, none⟩), .int .u32 at_, .int .u8 1, .int .u8 0, .func (.func 50) #[] #[]] [row 89 q [.pointer (some ⟨p, 0, none⟩), .int .u32 at0, .int .i64 sz, .slice (some ⟨wb, 0, none⟩) wh.length wh.length], row 5 wb (wh.map byteV)] (fun u L' => u = .int .i64 0 ∧ L' = [row 89 q [.pointer (some ⟨p, 0, none⟩), .int .u32 at0, .int .i64 sz, .slice (some ⟨wb, 0, none⟩) wh.length wh.length], row 5 wb ((wh.set k 0).map byteV)]) := by
  refine Sat.enter Try.func49 rfl Try.ntmps49 rfl (fun c R => ?_)
  try simp only [List.cons_append, List.nil_append]
  have hkl : k < wh.length := by rcases Nat.lt_or_ge k wh.length with h | h; exact h; rw [List.getElem?_eq_none h] at hx; cases hx
  refine T.seq ?_
  refine T.reg ?_
  refine TO.p (DP.as (by conv => lhs; whnf)) ?_
  refine TO.nil ?_
  refine TQ.nn ?_
  refine T.seq ?_
  refine T.reg ?_
  refine TO.p (DP.mv (by conv => lhs; whnf)) ?_
  refine TO.p (DP.mv (by conv => lhs; whnf)) ?_
  refine TO.n (N.callF (find_ok q p wb at0 sz wh.length at_ h0 hz hz2 hc ha k hkl he) Try.call69 ⟨rfl, rfl, trivial⟩ (by (repeat first | exact Pick.nil _ | (apply Pick.cons; focus ((repeat first | exact Del.head _ _ | apply Del.tail); done))))) ?_
  rintro u17 _ ⟨_, ⟨rfl, rfl⟩, rfl⟩
  try simp only [List.cons_append, List.nil_append]
  refine TO.p (DP.mv (by conv => lhs; whnf)) ?_
  refine TO.p (DP.ex rfl rfl) ?_
  refine TO.p (DP.ex rfl rfl) ?_
  refine TO.p (DP.as (by conv => lhs; whnf)) ?_
  refine TO.p (DP.as (by conv => lhs; whnf)) ?_
  refine TO.nil ?_
  refine TQ.nn ?_
  refine T.seq ?_
  refine T.block ?_
  refine T.seq ?_
  refine T.reg ?_
  refine TO.p (DP.mv (by conv => lhs; whnf)) ?_
  refine TO.p (DP.neq (a := 0) (b := 0) rfl rfl) ?_
  refine TO.p (DP.as (by conv => lhs; whnf)) ?_
  refine TO.nil ?_
  refine TQ.nn ?_
  refine T.condD rfl (fun hc0 => ?_) (fun hc0 => ?_)
  · exact absurd rfl hc0
  · refine T.seq ?_
    refine T.reg ?_
    refine TO.p (DP.mv (by conv => lhs; whnf)) ?_
    refine TO.p (DP.nck rfl) ?_
    refine TO.p (DP.fa 3 rfl Try.underlying89 rfl rfl sz49) ?_
    refine TO.d (D.ldR rfl pl49 (by (repeat first | exact LMem.head _ _ | apply LMem.tail)) (by rfl)) ?_
    refine TO.p (DP.mv (by conv => lhs; whnf)) ?_
    refine TO.p (DP.to (v' := .pointer (some ⟨wb, k, none⟩)) (DP.ias rfl rfl Try.underlying49 sz5 hkl) (by simp)) ?_
    refine TO.d (D.ldR (v := byteV 1) rfl pl5 (by (repeat first | exact LMem.head _ _ | apply LMem.tail)) (by rw [List.getElem?_map]; simp [hx])) ?_
    refine TO.p (DP.mv (by conv => lhs; whnf)) ?_
    refine TO.p (DP.neq (a := 1) (b := 1) rfl rfl) ?_
    refine TO.p (DP.as (by conv => lhs; whnf)) ?_
    refine TO.nil ?_
    refine TQ.nn ?_
    refine T.condD rfl (fun hc1 => ?_) (fun hc1 => ?_)
    · exact absurd rfl hc1
    · refine T.skip ?_
      refine TQ.bn ?_
      refine TQ.nn ?_
      refine T.seq ?_
      refine T.seq ?_
      refine T.reg ?_
      refine TO.p (DP.mv (by conv => lhs; whnf)) ?_
      refine TO.p (DP.mv (by conv => lhs; whnf)) ?_
      refine TO.p (DP.mv (by conv => lhs; whnf)) ?_
      refine TO.p (DP.nck rfl) ?_
      refine TO.p (DP.fa 2 rfl Try.underlying89 rfl rfl sz3) ?_
      refine TO.d (D.ldR rfl pl3 (by (repeat first | exact LMem.head _ _ | apply LMem.tail)) (by rfl)) ?_
      refine TO.p (DP.cv rfl is3 Try.underlying30 (l := 4294967296) rfl (by omega)) ?_
      refine TO.p (DP.bdL (vs := [(0, _), (1, _)]) (us := [_, _]) ⟨rfl, (by conv => lhs; whnf), rfl, (by conv => lhs; whnf), trivial⟩ pc42 zr42 rfl) ?_
      refine TO.n (N.callC 1 (put1_spec at_ sz) Try.call50 rfl ⟨rfl, trivial⟩ (by (repeat first | exact Pick.nil _ | (apply Pick.cons; focus ((repeat first | exact Del.head _ _ | apply Del.tail); done))))) ?_
      rintro u42 _ ⟨_, ⟨rfl, rfl⟩, rfl⟩
      try simp only [List.cons_append, List.nil_append]
      refine TO.p (DP.as (by conv => lhs; whnf)) ?_
      refine TO.nil ?_
      refine TQ.nn ?_
      refine T.seq ?_
      refine T.reg ?_
      refine TO.p (DP.mv (by conv => lhs; whnf)) ?_
      refine TO.p (DP.neq (a := 0) (b := 0) rfl rfl) ?_
      refine TO.nil ?_
      refine TQ.nn ?_
      refine T.condD rfl (fun hc2 => ?_) (fun hc2 => ?_)
      · exact absurd rfl hc2
      · refine T.skip ?_
        refine TQ.nn ?_
        refine T.seq ?_
        refine T.reg ?_
        refine TO.p (DP.mv (by conv => lhs; whnf)) ?_
        refine TO.p (DP.nck rfl) ?_
        refine TO.p (DP.fa 3 rfl Try.underlying89 rfl rfl sz49) ?_
        refine TO.d (D.ldR rfl pl49 (by (repeat first | exact LMem.head _ _ | apply LMem.tail)) (by rfl)) ?_
        refine TO.p (DP.mv (by conv => lhs; whnf)) ?_
        refine TO.p (DP.mv (by conv => lhs; whnf)) ?_
        refine TO.p (DP.to (v' := .pointer (some ⟨wb, k, none⟩)) (DP.ias rfl rfl Try.underlying49 sz5 hkl) (by simp)) ?_
        refine TO.n0 (N.st (et := 5) rfl (by conv => lhs; whnf) sz5 (by (repeat first | exact Put.head _ _ _ | apply Put.tail)) (by rw [List.length_map]; exact hkl) rfl) ?_
        rintro _ _ ⟨rfl, rfl⟩
        rw [show (wh.map byteV).set k (.int .u8 0) = (wh.set k 0).map byteV by rw [List.map_set]; rfl]
        refine TO.nil ?_
        refine TQ.nn ?_
        refine T.seq ?_
        refine T.reg ?_
        refine TO.p (DP.as (by conv => lhs; whnf)) ?_
        refine TO.nil ?_
        refine TQ.nn ?_
        refine T.ret ?_
        refine TQ.ret (vs := [.int .i64 0]) (L' := [row 89 q [.pointer (some ⟨p, 0, none⟩), .int .u32 at0, .int .i64 sz, .slice (some ⟨wb, 0, none⟩) wh.length wh.length], row 5 wb ((wh.set k 0).map byteV)]) rfl ⟨rfl, rfl⟩ ⟨rfl, rfl⟩ (by (refine Ent.imp ?_; repeat first | exact Imp.refl _ | exact Imp.nil _ | (apply Imp.pull; focus ((repeat first | exact Del.head _ _ | apply Del.tail); done)) | (apply Imp.row; focus ((repeat first | exact Del.head _ _ | apply Del.tail); done)) | apply Imp.drop))

theorem turn_give (cb : Nat) (q p wb b at0 sz at_ : Nat) (wh : List UInt8) (v : Value) (bs : List UInt8) (ss : List Spn) (h0 : at0 < 4294967296) (hz : 0 < sz) (hz2 : sz ≤ 1048576) (hc : wh.length ≤ 256) (ha : at_ < 4294967296) (hbs : bs.length ≤ 1048576) (hlen : ss.length ≤ 1048576) (hb : ∀ s ∈ ss, s.1 + s.2 ≤ 1048576) (hin : at_ + sz ≤ bs.length) (k : Nat) (hx : wh[k]? = some 1) (he : at_ = at0 + k * sz) (hs : sharedN ss at_ sz = 0) (hsort : ∀ (m h : Nat) (x y : Spn), m ≤ h → ss[m]? = some x → ss[h]? = some y → x.1 ≤ y.1) :
    Sat Try.prog 49 [.pointer (some ⟨q, 0, none⟩), .int .u32 at_, .int .u8 1, .int .u8 2, .func (.func 51) #[] #[.pointer (some ⟨cb, 0, none⟩)]] [row 46 cb [.pointer (some ⟨q, 0, none⟩)], row 89 q [.pointer (some ⟨p, 0, none⟩), .int .u32 at0, .int .i64 sz, .slice (some ⟨wb, 0, none⟩) wh.length wh.length], row 5 wb (wh.map byteV), row 78 p [.slice (some ⟨b, 0, none⟩) bs.length bs.length, v], row 5 b (bs.map byteV), sl 42 2 v ss.length (spans ss)] (fun u L' => ∃ v' pre post, u = .int .i64 0 ∧ ss = pre ++ post ∧ (∀ s ∈ pre, s.1 < at_) ∧ (∀ s ∈ post, at_ ≤ s.1) ∧ L' = [row 89 q [.pointer (some ⟨p, 0, none⟩), .int .u32 at0, .int .i64 sz, .slice (some ⟨wb, 0, none⟩) wh.length wh.length], row 5 wb ((wh.set k 2).map byteV), row 78 p [.slice (some ⟨b, 0, none⟩) bs.length bs.length, v'], row 5 b (bs.map byteV), sl 42 2 v' (mergeP pre at_ (mergeN at_ sz post).1 (mergeN at_ sz post).2).length (spans (mergeP pre at_ (mergeN at_ sz post).1 (mergeN at_ sz post).2))]) := by
  refine Sat.enter Try.func49 rfl Try.ntmps49 rfl (fun c R => ?_)
  try simp only [List.cons_append, List.nil_append]
  have hkl : k < wh.length := by rcases Nat.lt_or_ge k wh.length with h | h; exact h; rw [List.getElem?_eq_none h] at hx; cases hx
  refine T.seq ?_
  refine T.reg ?_
  refine TO.p (DP.as (by conv => lhs; whnf)) ?_
  refine TO.nil ?_
  refine TQ.nn ?_
  refine T.seq ?_
  refine T.reg ?_
  refine TO.p (DP.mv (by conv => lhs; whnf)) ?_
  refine TO.p (DP.mv (by conv => lhs; whnf)) ?_
  refine TO.n (N.callF (find_ok q p wb at0 sz wh.length at_ h0 hz hz2 hc ha k hkl he) Try.call69 ⟨rfl, rfl, trivial⟩ (by (repeat first | exact Pick.nil _ | (apply Pick.cons; focus ((repeat first | exact Del.head _ _ | apply Del.tail); done))))) ?_
  rintro u17 _ ⟨_, ⟨rfl, rfl⟩, rfl⟩
  try simp only [List.cons_append, List.nil_append]
  refine TO.p (DP.mv (by conv => lhs; whnf)) ?_
  refine TO.p (DP.ex rfl rfl) ?_
  refine TO.p (DP.ex rfl rfl) ?_
  refine TO.p (DP.as (by conv => lhs; whnf)) ?_
  refine TO.p (DP.as (by conv => lhs; whnf)) ?_
  refine TO.nil ?_
  refine TQ.nn ?_
  refine T.seq ?_
  refine T.block ?_
  refine T.seq ?_
  refine T.reg ?_
  refine TO.p (DP.mv (by conv => lhs; whnf)) ?_
  refine TO.p (DP.neq (a := 0) (b := 0) rfl rfl) ?_
  refine TO.p (DP.as (by conv => lhs; whnf)) ?_
  refine TO.nil ?_
  refine TQ.nn ?_
  refine T.condD rfl (fun hc0 => ?_) (fun hc0 => ?_)
  · exact absurd rfl hc0
  · refine T.seq ?_
    refine T.reg ?_
    refine TO.p (DP.mv (by conv => lhs; whnf)) ?_
    refine TO.p (DP.nck rfl) ?_
    refine TO.p (DP.fa 3 rfl Try.underlying89 rfl rfl sz49) ?_
    refine TO.d (D.ldR rfl pl49 (by (repeat first | exact LMem.head _ _ | apply LMem.tail)) (by rfl)) ?_
    refine TO.p (DP.mv (by conv => lhs; whnf)) ?_
    refine TO.p (DP.to (v' := .pointer (some ⟨wb, k, none⟩)) (DP.ias rfl rfl Try.underlying49 sz5 hkl) (by simp)) ?_
    refine TO.d (D.ldR (v := byteV 1) rfl pl5 (by (repeat first | exact LMem.head _ _ | apply LMem.tail)) (by rw [List.getElem?_map]; simp [hx])) ?_
    refine TO.p (DP.mv (by conv => lhs; whnf)) ?_
    refine TO.p (DP.neq (a := 1) (b := 1) rfl rfl) ?_
    refine TO.p (DP.as (by conv => lhs; whnf)) ?_
    refine TO.nil ?_
    refine TQ.nn ?_
    refine T.condD rfl (fun hc1 => ?_) (fun hc1 => ?_)
    · exact absurd rfl hc1
    · refine T.skip ?_
      refine TQ.bn ?_
      refine TQ.nn ?_
      refine T.seq ?_
      refine T.seq ?_
      refine T.reg ?_
      refine TO.p (DP.mv (by conv => lhs; whnf)) ?_
      refine TO.p (DP.mv (by conv => lhs; whnf)) ?_
      refine TO.p (DP.mv (by conv => lhs; whnf)) ?_
      refine TO.p (DP.nck rfl) ?_
      refine TO.p (DP.fa 2 rfl Try.underlying89 rfl rfl sz3) ?_
      refine TO.d (D.ldR rfl pl3 (by (repeat first | exact LMem.head _ _ | apply LMem.tail)) (by rfl)) ?_
      refine TO.p (DP.cv rfl is3 Try.underlying30 (l := 4294967296) rfl (by omega)) ?_
      refine TO.p (DP.bdL (vs := [(0, _), (1, _)]) (us := [_, _]) ⟨rfl, (by conv => lhs; whnf), rfl, (by conv => lhs; whnf), trivial⟩ pc42 zr42 rfl) ?_
      refine TO.n (N.callC 1 (give1_ok cb q at0 sz wb wh.length p b at_ sz v bs ss hbs hlen hb ha (by omega) hz hin hs hsort) Try.call51 rfl ⟨rfl, trivial⟩ (by (repeat first | exact Pick.nil _ | (apply Pick.cons; focus ((repeat first | exact Del.head _ _ | apply Del.tail); done))))) ?_
      rintro u42 _ ⟨_, ⟨v9, pre, post, rfl, hss, h1, h2, rfl⟩, rfl⟩
      try simp only [List.cons_append, List.nil_append]
      refine TO.p (DP.as (by conv => lhs; whnf)) ?_
      refine TO.nil ?_
      refine TQ.nn ?_
      refine T.seq ?_
      refine T.reg ?_
      refine TO.p (DP.mv (by conv => lhs; whnf)) ?_
      refine TO.p (DP.neq (a := 0) (b := 0) rfl rfl) ?_
      refine TO.nil ?_
      refine TQ.nn ?_
      refine T.condD rfl (fun hc2 => ?_) (fun hc2 => ?_)
      · exact absurd rfl hc2
      · refine T.skip ?_
        refine TQ.nn ?_
        refine T.seq ?_
        refine T.reg ?_
        refine TO.p (DP.mv (by conv => lhs; whnf)) ?_
        refine TO.p (DP.nck rfl) ?_
        refine TO.p (DP.fa 3 rfl Try.underlying89 rfl rfl sz49) ?_
        refine TO.d (D.ldR rfl pl49 (by (repeat first | exact LMem.head _ _ | apply LMem.tail)) (by rfl)) ?_
        refine TO.p (DP.mv (by conv => lhs; whnf)) ?_
        refine TO.p (DP.mv (by conv => lhs; whnf)) ?_
        refine TO.p (DP.to (v' := .pointer (some ⟨wb, k, none⟩)) (DP.ias rfl rfl Try.underlying49 sz5 hkl) (by simp)) ?_
        refine TO.n0 (N.st (et := 5) rfl (by conv => lhs; whnf) sz5 (by (repeat first | exact Put.head _ _ _ | apply Put.tail)) (by rw [List.length_map]; exact hkl) rfl) ?_
        rintro _ _ ⟨rfl, rfl⟩
        rw [show (wh.map byteV).set k (.int .u8 2) = (wh.set k 2).map byteV by rw [List.map_set]; rfl]
        refine TO.nil ?_
        refine TQ.nn ?_
        refine T.seq ?_
        refine T.reg ?_
        refine TO.p (DP.as (by conv => lhs; whnf)) ?_
        refine TO.nil ?_
        refine TQ.nn ?_
        refine T.ret ?_
        refine TQ.ret (vs := [.int .i64 0]) (L' := [row 89 q [.pointer (some ⟨p, 0, none⟩), .int .u32 at0, .int .i64 sz, .slice (some ⟨wb, 0, none⟩) wh.length wh.length], row 5 wb ((wh.set k 2).map byteV), row 78 p [.slice (some ⟨b, 0, none⟩) bs.length bs.length, v9], row 5 b (bs.map byteV), sl 42 2 v9 (mergeP pre at_ (mergeN at_ sz post).1 (mergeN at_ sz post).2).length (spans (mergeP pre at_ (mergeN at_ sz post).1 (mergeN at_ sz post).2))]) rfl ⟨rfl, rfl⟩ ⟨v9, pre, post, rfl, hss, h1, h2, rfl⟩ (by (refine Ent.imp ?_; repeat first | exact Imp.refl _ | exact Imp.nil _ | (apply Imp.pull; focus ((repeat first | exact Del.head _ _ | apply Del.tail); done)) | (apply Imp.row; focus ((repeat first | exact Del.head _ _ | apply Del.tail); done)) | apply Imp.drop))

theorem turn_give_bad (cb : Nat) (q p wb b at0 sz at_ : Nat) (wh : List UInt8) (v : Value) (bs : List UInt8) (ss : List Spn) (h0 : at0 < 4294967296) (hz : 0 < sz) (hz2 : sz ≤ 1048576) (hc : wh.length ≤ 256) (ha : at_ < 4294967296) (hbs : bs.length ≤ 1048576) (hlen : ss.length ≤ 1048576) (hb : ∀ s ∈ ss, s.1 + s.2 ≤ 1048576) (hin : at_ + sz ≤ bs.length) (k : Nat) (hx : wh[k]? = some 1) (he : at_ = at0 + k * sz) (hs : 0 < sharedN ss at_ sz) :
    Sat Try.prog 49 [.pointer (some ⟨q, 0, none⟩), .int .u32 at_, .int .u8 1, .int .u8 2, .func (.func 51) #[] #[.pointer (some ⟨cb, 0, none⟩)]] [row 46 cb [.pointer (some ⟨q, 0, none⟩)], row 89 q [.pointer (some ⟨p, 0, none⟩), .int .u32 at0, .int .i64 sz, .slice (some ⟨wb, 0, none⟩) wh.length wh.length], row 5 wb (wh.map byteV), row 78 p [.slice (some ⟨b, 0, none⟩) bs.length bs.length, v], row 5 b (bs.map byteV), sl 42 2 v ss.length (spans ss)] (fun u L' => u = .int .i64 11 ∧ L' = [row 89 q [.pointer (some ⟨p, 0, none⟩), .int .u32 at0, .int .i64 sz, .slice (some ⟨wb, 0, none⟩) wh.length wh.length], row 5 wb (wh.map byteV), row 78 p [.slice (some ⟨b, 0, none⟩) bs.length bs.length, v], row 5 b (bs.map byteV), sl 42 2 v ss.length (spans ss)]) := by
  refine Sat.enter Try.func49 rfl Try.ntmps49 rfl (fun c R => ?_)
  try simp only [List.cons_append, List.nil_append]
  have hkl : k < wh.length := by rcases Nat.lt_or_ge k wh.length with h | h; exact h; rw [List.getElem?_eq_none h] at hx; cases hx
  refine T.seq ?_
  refine T.reg ?_
  refine TO.p (DP.as (by conv => lhs; whnf)) ?_
  refine TO.nil ?_
  refine TQ.nn ?_
  refine T.seq ?_
  refine T.reg ?_
  refine TO.p (DP.mv (by conv => lhs; whnf)) ?_
  refine TO.p (DP.mv (by conv => lhs; whnf)) ?_
  refine TO.n (N.callF (find_ok q p wb at0 sz wh.length at_ h0 hz hz2 hc ha k hkl he) Try.call69 ⟨rfl, rfl, trivial⟩ (by (repeat first | exact Pick.nil _ | (apply Pick.cons; focus ((repeat first | exact Del.head _ _ | apply Del.tail); done))))) ?_
  rintro u17 _ ⟨_, ⟨rfl, rfl⟩, rfl⟩
  try simp only [List.cons_append, List.nil_append]
  refine TO.p (DP.mv (by conv => lhs; whnf)) ?_
  refine TO.p (DP.ex rfl rfl) ?_
  refine TO.p (DP.ex rfl rfl) ?_
  refine TO.p (DP.as (by conv => lhs; whnf)) ?_
  refine TO.p (DP.as (by conv => lhs; whnf)) ?_
  refine TO.nil ?_
  refine TQ.nn ?_
  refine T.seq ?_
  refine T.block ?_
  refine T.seq ?_
  refine T.reg ?_
  refine TO.p (DP.mv (by conv => lhs; whnf)) ?_
  refine TO.p (DP.neq (a := 0) (b := 0) rfl rfl) ?_
  refine TO.p (DP.as (by conv => lhs; whnf)) ?_
  refine TO.nil ?_
  refine TQ.nn ?_
  refine T.condD rfl (fun hc0 => ?_) (fun hc0 => ?_)
  · exact absurd rfl hc0
  · refine T.seq ?_
    refine T.reg ?_
    refine TO.p (DP.mv (by conv => lhs; whnf)) ?_
    refine TO.p (DP.nck rfl) ?_
    refine TO.p (DP.fa 3 rfl Try.underlying89 rfl rfl sz49) ?_
    refine TO.d (D.ldR rfl pl49 (by (repeat first | exact LMem.head _ _ | apply LMem.tail)) (by rfl)) ?_
    refine TO.p (DP.mv (by conv => lhs; whnf)) ?_
    refine TO.p (DP.to (v' := .pointer (some ⟨wb, k, none⟩)) (DP.ias rfl rfl Try.underlying49 sz5 hkl) (by simp)) ?_
    refine TO.d (D.ldR (v := byteV 1) rfl pl5 (by (repeat first | exact LMem.head _ _ | apply LMem.tail)) (by rw [List.getElem?_map]; simp [hx])) ?_
    refine TO.p (DP.mv (by conv => lhs; whnf)) ?_
    refine TO.p (DP.neq (a := 1) (b := 1) rfl rfl) ?_
    refine TO.p (DP.as (by conv => lhs; whnf)) ?_
    refine TO.nil ?_
    refine TQ.nn ?_
    refine T.condD rfl (fun hc1 => ?_) (fun hc1 => ?_)
    · exact absurd rfl hc1
    · refine T.skip ?_
      refine TQ.bn ?_
      refine TQ.nn ?_
      refine T.seq ?_
      refine T.seq ?_
      refine T.reg ?_
      refine TO.p (DP.mv (by conv => lhs; whnf)) ?_
      refine TO.p (DP.mv (by conv => lhs; whnf)) ?_
      refine TO.p (DP.mv (by conv => lhs; whnf)) ?_
      refine TO.p (DP.nck rfl) ?_
      refine TO.p (DP.fa 2 rfl Try.underlying89 rfl rfl sz3) ?_
      refine TO.d (D.ldR rfl pl3 (by (repeat first | exact LMem.head _ _ | apply LMem.tail)) (by rfl)) ?_
      refine TO.p (DP.cv rfl is3 Try.underlying30 (l := 4294967296) rfl (by omega)) ?_
      refine TO.p (DP.bdL (vs := [(0, _), (1, _)]) (us := [_, _]) ⟨rfl, (by conv => lhs; whnf), rfl, (by conv => lhs; whnf), trivial⟩ pc42 zr42 rfl) ?_
      refine TO.n (N.callC 1 (give1_bad cb q at0 sz wb wh.length p b at_ sz v bs ss hbs hlen hb ha (by omega) hz hin hs) Try.call51 rfl ⟨rfl, trivial⟩ (by (repeat first | exact Pick.nil _ | (apply Pick.cons; focus ((repeat first | exact Del.head _ _ | apply Del.tail); done))))) ?_
      rintro u42 _ ⟨_, ⟨rfl, rfl⟩, rfl⟩
      try simp only [List.cons_append, List.nil_append]
      refine TO.p (DP.as (by conv => lhs; whnf)) ?_
      refine TO.nil ?_
      refine TQ.nn ?_
      refine T.seq ?_
      refine T.reg ?_
      refine TO.p (DP.mv (by conv => lhs; whnf)) ?_
      refine TO.p (DP.neq (a := 11) (b := 0) rfl rfl) ?_
      refine TO.nil ?_
      refine TQ.nn ?_
      refine T.condD rfl (fun hc2 => ?_) (fun hc2 => ?_)
      · refine T.seq ?_
        refine T.reg ?_
        refine TO.p (DP.mv (by conv => lhs; whnf)) ?_
        refine TO.p (DP.as (by conv => lhs; whnf)) ?_
        refine TO.nil ?_
        refine TQ.nn ?_
        refine T.ret ?_
        refine TQ.nr ?_
        refine TQ.ret (vs := [.int .i64 11]) (L' := [row 89 q [.pointer (some ⟨p, 0, none⟩), .int .u32 at0, .int .i64 sz, .slice (some ⟨wb, 0, none⟩) wh.length wh.length], row 5 wb (wh.map byteV), row 78 p [.slice (some ⟨b, 0, none⟩) bs.length bs.length, v], row 5 b (bs.map byteV), sl 42 2 v ss.length (spans ss)]) rfl ⟨rfl, rfl⟩ ⟨rfl, rfl⟩ (by (refine Ent.imp ?_; repeat first | exact Imp.refl _ | exact Imp.nil _ | (apply Imp.pull; focus ((repeat first | exact Del.head _ _ | apply Del.tail); done)) | (apply Imp.row; focus ((repeat first | exact Del.head _ _ | apply Del.tail); done)) | apply Imp.drop))
      · exact absurd (by decide) hc2

theorem turn_take (cb : Nat) (q p wb b at0 sz at_ : Nat) (wh : List UInt8) (v : Value) (bs : List UInt8) (ss : List Spn) (h0 : at0 < 4294967296) (hz : 0 < sz) (hz2 : sz ≤ 1048576) (hc : wh.length ≤ 256) (ha : at_ < 4294967296) (hbs : bs.length ≤ 1048576) (hlen : ss.length ≤ 1048576) (hb : ∀ s ∈ ss, s.1 + s.2 ≤ 1048576) (hin : at_ + sz ≤ bs.length) (k : Nat) (hx : wh[k]? = some 2) (he : at_ = at0 + k * sz) (hs : sz ≤ sharedN ss at_ sz) :
    Sat Try.prog 49 [.pointer (some ⟨q, 0, none⟩), .int .u32 at_, .int .u8 2, .int .u8 1, .func (.func 52) #[] #[.pointer (some ⟨cb, 0, none⟩)]] [row 46 cb [.pointer (some ⟨q, 0, none⟩)], row 89 q [.pointer (some ⟨p, 0, none⟩), .int .u32 at0, .int .i64 sz, .slice (some ⟨wb, 0, none⟩) wh.length wh.length], row 5 wb (wh.map byteV), row 78 p [.slice (some ⟨b, 0, none⟩) bs.length bs.length, v], row 5 b (bs.map byteV), sl 42 2 v ss.length (spans ss)] (fun u L' => ∃ v', u = .int .i64 0 ∧ L' = [row 89 q [.pointer (some ⟨p, 0, none⟩), .int .u32 at0, .int .i64 sz, .slice (some ⟨wb, 0, none⟩) wh.length wh.length], row 5 wb ((wh.set k 1).map byteV), row 78 p [.slice (some ⟨b, 0, none⟩) bs.length bs.length, v'], row 5 b (bs.map byteV), sl 42 2 v' (backL at_ sz ss).length (spans (backL at_ sz ss))]) := by
  refine Sat.enter Try.func49 rfl Try.ntmps49 rfl (fun c R => ?_)
  try simp only [List.cons_append, List.nil_append]
  have hkl : k < wh.length := by rcases Nat.lt_or_ge k wh.length with h | h; exact h; rw [List.getElem?_eq_none h] at hx; cases hx
  refine T.seq ?_
  refine T.reg ?_
  refine TO.p (DP.as (by conv => lhs; whnf)) ?_
  refine TO.nil ?_
  refine TQ.nn ?_
  refine T.seq ?_
  refine T.reg ?_
  refine TO.p (DP.mv (by conv => lhs; whnf)) ?_
  refine TO.p (DP.mv (by conv => lhs; whnf)) ?_
  refine TO.n (N.callF (find_ok q p wb at0 sz wh.length at_ h0 hz hz2 hc ha k hkl he) Try.call69 ⟨rfl, rfl, trivial⟩ (by (repeat first | exact Pick.nil _ | (apply Pick.cons; focus ((repeat first | exact Del.head _ _ | apply Del.tail); done))))) ?_
  rintro u17 _ ⟨_, ⟨rfl, rfl⟩, rfl⟩
  try simp only [List.cons_append, List.nil_append]
  refine TO.p (DP.mv (by conv => lhs; whnf)) ?_
  refine TO.p (DP.ex rfl rfl) ?_
  refine TO.p (DP.ex rfl rfl) ?_
  refine TO.p (DP.as (by conv => lhs; whnf)) ?_
  refine TO.p (DP.as (by conv => lhs; whnf)) ?_
  refine TO.nil ?_
  refine TQ.nn ?_
  refine T.seq ?_
  refine T.block ?_
  refine T.seq ?_
  refine T.reg ?_
  refine TO.p (DP.mv (by conv => lhs; whnf)) ?_
  refine TO.p (DP.neq (a := 0) (b := 0) rfl rfl) ?_
  refine TO.p (DP.as (by conv => lhs; whnf)) ?_
  refine TO.nil ?_
  refine TQ.nn ?_
  refine T.condD rfl (fun hc0 => ?_) (fun hc0 => ?_)
  · exact absurd rfl hc0
  · refine T.seq ?_
    refine T.reg ?_
    refine TO.p (DP.mv (by conv => lhs; whnf)) ?_
    refine TO.p (DP.nck rfl) ?_
    refine TO.p (DP.fa 3 rfl Try.underlying89 rfl rfl sz49) ?_
    refine TO.d (D.ldR rfl pl49 (by (repeat first | exact LMem.head _ _ | apply LMem.tail)) (by rfl)) ?_
    refine TO.p (DP.mv (by conv => lhs; whnf)) ?_
    refine TO.p (DP.to (v' := .pointer (some ⟨wb, k, none⟩)) (DP.ias rfl rfl Try.underlying49 sz5 hkl) (by simp)) ?_
    refine TO.d (D.ldR (v := byteV 2) rfl pl5 (by (repeat first | exact LMem.head _ _ | apply LMem.tail)) (by rw [List.getElem?_map]; simp [hx])) ?_
    refine TO.p (DP.mv (by conv => lhs; whnf)) ?_
    refine TO.p (DP.neq (a := 2) (b := 2) rfl rfl) ?_
    refine TO.p (DP.as (by conv => lhs; whnf)) ?_
    refine TO.nil ?_
    refine TQ.nn ?_
    refine T.condD rfl (fun hc1 => ?_) (fun hc1 => ?_)
    · exact absurd rfl hc1
    · refine T.skip ?_
      refine TQ.bn ?_
      refine TQ.nn ?_
      refine T.seq ?_
      refine T.seq ?_
      refine T.reg ?_
      refine TO.p (DP.mv (by conv => lhs; whnf)) ?_
      refine TO.p (DP.mv (by conv => lhs; whnf)) ?_
      refine TO.p (DP.mv (by conv => lhs; whnf)) ?_
      refine TO.p (DP.nck rfl) ?_
      refine TO.p (DP.fa 2 rfl Try.underlying89 rfl rfl sz3) ?_
      refine TO.d (D.ldR rfl pl3 (by (repeat first | exact LMem.head _ _ | apply LMem.tail)) (by rfl)) ?_
      refine TO.p (DP.cv rfl is3 Try.underlying30 (l := 4294967296) rfl (by omega)) ?_
      refine TO.p (DP.bdL (vs := [(0, _), (1, _)]) (us := [_, _]) ⟨rfl, (by conv => lhs; whnf), rfl, (by conv => lhs; whnf), trivial⟩ pc42 zr42 rfl) ?_
      refine TO.n (N.callC 1 (take1_ok cb q at0 sz wb wh.length p b at_ sz v bs ss hbs hlen hb ha (by omega) hz hin hs) Try.call52 rfl ⟨rfl, trivial⟩ (by (repeat first | exact Pick.nil _ | (apply Pick.cons; focus ((repeat first | exact Del.head _ _ | apply Del.tail); done))))) ?_
      rintro u42 _ ⟨_, ⟨v9, rfl, rfl⟩, rfl⟩
      try simp only [List.cons_append, List.nil_append]
      refine TO.p (DP.as (by conv => lhs; whnf)) ?_
      refine TO.nil ?_
      refine TQ.nn ?_
      refine T.seq ?_
      refine T.reg ?_
      refine TO.p (DP.mv (by conv => lhs; whnf)) ?_
      refine TO.p (DP.neq (a := 0) (b := 0) rfl rfl) ?_
      refine TO.nil ?_
      refine TQ.nn ?_
      refine T.condD rfl (fun hc2 => ?_) (fun hc2 => ?_)
      · exact absurd rfl hc2
      · refine T.skip ?_
        refine TQ.nn ?_
        refine T.seq ?_
        refine T.reg ?_
        refine TO.p (DP.mv (by conv => lhs; whnf)) ?_
        refine TO.p (DP.nck rfl) ?_
        refine TO.p (DP.fa 3 rfl Try.underlying89 rfl rfl sz49) ?_
        refine TO.d (D.ldR rfl pl49 (by (repeat first | exact LMem.head _ _ | apply LMem.tail)) (by rfl)) ?_
        refine TO.p (DP.mv (by conv => lhs; whnf)) ?_
        refine TO.p (DP.mv (by conv => lhs; whnf)) ?_
        refine TO.p (DP.to (v' := .pointer (some ⟨wb, k, none⟩)) (DP.ias rfl rfl Try.underlying49 sz5 hkl) (by simp)) ?_
        refine TO.n0 (N.st (et := 5) rfl (by conv => lhs; whnf) sz5 (by (repeat first | exact Put.head _ _ _ | apply Put.tail)) (by rw [List.length_map]; exact hkl) rfl) ?_
        rintro _ _ ⟨rfl, rfl⟩
        rw [show (wh.map byteV).set k (.int .u8 1) = (wh.set k 1).map byteV by rw [List.map_set]; rfl]
        refine TO.nil ?_
        refine TQ.nn ?_
        refine T.seq ?_
        refine T.reg ?_
        refine TO.p (DP.as (by conv => lhs; whnf)) ?_
        refine TO.nil ?_
        refine TQ.nn ?_
        refine T.ret ?_
        refine TQ.ret (vs := [.int .i64 0]) (L' := [row 89 q [.pointer (some ⟨p, 0, none⟩), .int .u32 at0, .int .i64 sz, .slice (some ⟨wb, 0, none⟩) wh.length wh.length], row 5 wb ((wh.set k 1).map byteV), row 78 p [.slice (some ⟨b, 0, none⟩) bs.length bs.length, v9], row 5 b (bs.map byteV), sl 42 2 v9 (backL at_ sz ss).length (spans (backL at_ sz ss))]) rfl ⟨rfl, rfl⟩ ⟨v9, rfl, rfl⟩ (by (refine Ent.imp ?_; repeat first | exact Imp.refl _ | exact Imp.nil _ | (apply Imp.pull; focus ((repeat first | exact Del.head _ _ | apply Del.tail); done)) | (apply Imp.row; focus ((repeat first | exact Del.head _ _ | apply Del.tail); done)) | apply Imp.drop))

theorem turn_take_bad (cb : Nat) (q p wb b at0 sz at_ : Nat) (wh : List UInt8) (v : Value) (bs : List UInt8) (ss : List Spn) (h0 : at0 < 4294967296) (hz : 0 < sz) (hz2 : sz ≤ 1048576) (hc : wh.length ≤ 256) (ha : at_ < 4294967296) (hbs : bs.length ≤ 1048576) (hlen : ss.length ≤ 1048576) (hb : ∀ s ∈ ss, s.1 + s.2 ≤ 1048576) (hin : at_ + sz ≤ bs.length) (k : Nat) (hx : wh[k]? = some 2) (he : at_ = at0 + k * sz) (hs : sharedN ss at_ sz < sz) :
    Sat Try.prog 49 [.pointer (some ⟨q, 0, none⟩), .int .u32 at_, .int .u8 2, .int .u8 1, .func (.func 52) #[] #[.pointer (some ⟨cb, 0, none⟩)]] [row 46 cb [.pointer (some ⟨q, 0, none⟩)], row 89 q [.pointer (some ⟨p, 0, none⟩), .int .u32 at0, .int .i64 sz, .slice (some ⟨wb, 0, none⟩) wh.length wh.length], row 5 wb (wh.map byteV), row 78 p [.slice (some ⟨b, 0, none⟩) bs.length bs.length, v], row 5 b (bs.map byteV), sl 42 2 v ss.length (spans ss)] (fun u L' => u = .int .i64 12 ∧ L' = [row 89 q [.pointer (some ⟨p, 0, none⟩), .int .u32 at0, .int .i64 sz, .slice (some ⟨wb, 0, none⟩) wh.length wh.length], row 5 wb (wh.map byteV), row 78 p [.slice (some ⟨b, 0, none⟩) bs.length bs.length, v], row 5 b (bs.map byteV), sl 42 2 v ss.length (spans ss)]) := by
  refine Sat.enter Try.func49 rfl Try.ntmps49 rfl (fun c R => ?_)
  try simp only [List.cons_append, List.nil_append]
  have hkl : k < wh.length := by rcases Nat.lt_or_ge k wh.length with h | h; exact h; rw [List.getElem?_eq_none h] at hx; cases hx
  refine T.seq ?_
  refine T.reg ?_
  refine TO.p (DP.as (by conv => lhs; whnf)) ?_
  refine TO.nil ?_
  refine TQ.nn ?_
  refine T.seq ?_
  refine T.reg ?_
  refine TO.p (DP.mv (by conv => lhs; whnf)) ?_
  refine TO.p (DP.mv (by conv => lhs; whnf)) ?_
  refine TO.n (N.callF (find_ok q p wb at0 sz wh.length at_ h0 hz hz2 hc ha k hkl he) Try.call69 ⟨rfl, rfl, trivial⟩ (by (repeat first | exact Pick.nil _ | (apply Pick.cons; focus ((repeat first | exact Del.head _ _ | apply Del.tail); done))))) ?_
  rintro u17 _ ⟨_, ⟨rfl, rfl⟩, rfl⟩
  try simp only [List.cons_append, List.nil_append]
  refine TO.p (DP.mv (by conv => lhs; whnf)) ?_
  refine TO.p (DP.ex rfl rfl) ?_
  refine TO.p (DP.ex rfl rfl) ?_
  refine TO.p (DP.as (by conv => lhs; whnf)) ?_
  refine TO.p (DP.as (by conv => lhs; whnf)) ?_
  refine TO.nil ?_
  refine TQ.nn ?_
  refine T.seq ?_
  refine T.block ?_
  refine T.seq ?_
  refine T.reg ?_
  refine TO.p (DP.mv (by conv => lhs; whnf)) ?_
  refine TO.p (DP.neq (a := 0) (b := 0) rfl rfl) ?_
  refine TO.p (DP.as (by conv => lhs; whnf)) ?_
  refine TO.nil ?_
  refine TQ.nn ?_
  refine T.condD rfl (fun hc0 => ?_) (fun hc0 => ?_)
  · exact absurd rfl hc0
  · refine T.seq ?_
    refine T.reg ?_
    refine TO.p (DP.mv (by conv => lhs; whnf)) ?_
    refine TO.p (DP.nck rfl) ?_
    refine TO.p (DP.fa 3 rfl Try.underlying89 rfl rfl sz49) ?_
    refine TO.d (D.ldR rfl pl49 (by (repeat first | exact LMem.head _ _ | apply LMem.tail)) (by rfl)) ?_
    refine TO.p (DP.mv (by conv => lhs; whnf)) ?_
    refine TO.p (DP.to (v' := .pointer (some ⟨wb, k, none⟩)) (DP.ias rfl rfl Try.underlying49 sz5 hkl) (by simp)) ?_
    refine TO.d (D.ldR (v := byteV 2) rfl pl5 (by (repeat first | exact LMem.head _ _ | apply LMem.tail)) (by rw [List.getElem?_map]; simp [hx])) ?_
    refine TO.p (DP.mv (by conv => lhs; whnf)) ?_
    refine TO.p (DP.neq (a := 2) (b := 2) rfl rfl) ?_
    refine TO.p (DP.as (by conv => lhs; whnf)) ?_
    refine TO.nil ?_
    refine TQ.nn ?_
    refine T.condD rfl (fun hc1 => ?_) (fun hc1 => ?_)
    · exact absurd rfl hc1
    · refine T.skip ?_
      refine TQ.bn ?_
      refine TQ.nn ?_
      refine T.seq ?_
      refine T.seq ?_
      refine T.reg ?_
      refine TO.p (DP.mv (by conv => lhs; whnf)) ?_
      refine TO.p (DP.mv (by conv => lhs; whnf)) ?_
      refine TO.p (DP.mv (by conv => lhs; whnf)) ?_
      refine TO.p (DP.nck rfl) ?_
      refine TO.p (DP.fa 2 rfl Try.underlying89 rfl rfl sz3) ?_
      refine TO.d (D.ldR rfl pl3 (by (repeat first | exact LMem.head _ _ | apply LMem.tail)) (by rfl)) ?_
      refine TO.p (DP.cv rfl is3 Try.underlying30 (l := 4294967296) rfl (by omega)) ?_
      refine TO.p (DP.bdL (vs := [(0, _), (1, _)]) (us := [_, _]) ⟨rfl, (by conv => lhs; whnf), rfl, (by conv => lhs; whnf), trivial⟩ pc42 zr42 rfl) ?_
      refine TO.n (N.callC 1 (take1_bad cb q at0 sz wb wh.length p b at_ sz v bs ss hbs hlen hb ha (by omega) hz hin hs) Try.call52 rfl ⟨rfl, trivial⟩ (by (repeat first | exact Pick.nil _ | (apply Pick.cons; focus ((repeat first | exact Del.head _ _ | apply Del.tail); done))))) ?_
      rintro u42 _ ⟨_, ⟨rfl, rfl⟩, rfl⟩
      try simp only [List.cons_append, List.nil_append]
      refine TO.p (DP.as (by conv => lhs; whnf)) ?_
      refine TO.nil ?_
      refine TQ.nn ?_
      refine T.seq ?_
      refine T.reg ?_
      refine TO.p (DP.mv (by conv => lhs; whnf)) ?_
      refine TO.p (DP.neq (a := 12) (b := 0) rfl rfl) ?_
      refine TO.nil ?_
      refine TQ.nn ?_
      refine T.condD rfl (fun hc2 => ?_) (fun hc2 => ?_)
      · refine T.seq ?_
        refine T.reg ?_
        refine TO.p (DP.mv (by conv => lhs; whnf)) ?_
        refine TO.p (DP.as (by conv => lhs; whnf)) ?_
        refine TO.nil ?_
        refine TQ.nn ?_
        refine T.ret ?_
        refine TQ.nr ?_
        refine TQ.ret (vs := [.int .i64 12]) (L' := [row 89 q [.pointer (some ⟨p, 0, none⟩), .int .u32 at0, .int .i64 sz, .slice (some ⟨wb, 0, none⟩) wh.length wh.length], row 5 wb (wh.map byteV), row 78 p [.slice (some ⟨b, 0, none⟩) bs.length bs.length, v], row 5 b (bs.map byteV), sl 42 2 v ss.length (spans ss)]) rfl ⟨rfl, rfl⟩ ⟨rfl, rfl⟩ (by (refine Ent.imp ?_; repeat first | exact Imp.refl _ | exact Imp.nil _ | (apply Imp.pull; focus ((repeat first | exact Del.head _ _ | apply Del.tail); done)) | (apply Imp.row; focus ((repeat first | exact Del.head _ _ | apply Del.tail); done)) | apply Imp.drop))
      · exact absurd (by decide) hc2

theorem put_ok (q p wb at0 sz at_ : Nat) (wh : List UInt8) (h0 : at0 < 4294967296) (hz : 0 < sz) (hz2 : sz ≤ 1048576) (hc : wh.length ≤ 256) (ha : at_ < 4294967296) (k : Nat) (hx : wh[k]? = some 1) (he : at_ = at0 + k * sz) :
    Sat Try.prog 22 [.pointer (some ⟨q, 0, none⟩), .int .u32 at_] [row 89 q [.pointer (some ⟨p, 0, none⟩), .int .u32 at0, .int .i64 sz, .slice (some ⟨wb, 0, none⟩) wh.length wh.length], row 5 wb (wh.map byteV)] (fun u L' => u = .int .i64 0 ∧ L' = [row 89 q [.pointer (some ⟨p, 0, none⟩), .int .u32 at0, .int .i64 sz, .slice (some ⟨wb, 0, none⟩) wh.length wh.length], row 5 wb ((wh.set k 0).map byteV)]) := by
  refine Sat.enter Try.func22 rfl Try.ntmps22 rfl (fun c R => ?_)
  try simp only [List.cons_append, List.nil_append]
  refine T.seq ?_
  refine T.reg ?_
  refine TO.p (DP.as (by conv => lhs; whnf)) ?_
  refine TO.nil ?_
  refine TQ.nn ?_
  refine T.seq ?_
  refine T.reg ?_
  refine TO.p (DP.mv (by conv => lhs; whnf)) ?_
  refine TO.p (DP.mv (by conv => lhs; whnf)) ?_
  refine TO.n (N.callF (turn_put q p wb at0 sz at_ wh h0 hz hz2 hc ha k hx he) Try.call49 ⟨rfl, rfl, rfl, rfl, rfl, trivial⟩ (by (repeat first | exact Pick.nil _ | (apply Pick.cons; focus ((repeat first | exact Del.head _ _ | apply Del.tail); done))))) ?_
  rintro u7 _ ⟨_, ⟨rfl, rfl⟩, rfl⟩
  try simp only [List.cons_append, List.nil_append]
  refine TO.p (DP.as (by conv => lhs; whnf)) ?_
  refine TO.nil ?_
  refine TQ.nn ?_
  refine T.ret ?_
  refine TQ.ret (vs := [.int .i64 0]) (L' := [row 89 q [.pointer (some ⟨p, 0, none⟩), .int .u32 at0, .int .i64 sz, .slice (some ⟨wb, 0, none⟩) wh.length wh.length], row 5 wb ((wh.set k 0).map byteV)]) rfl ⟨rfl, rfl⟩ ⟨rfl, rfl⟩ (by (refine Ent.imp ?_; repeat first | exact Imp.refl _ | exact Imp.nil _ | (apply Imp.pull; focus ((repeat first | exact Del.head _ _ | apply Del.tail); done)) | (apply Imp.row; focus ((repeat first | exact Del.head _ _ | apply Del.tail); done)) | apply Imp.drop))

theorem pput_state (q p wb at0 sz at_ : Nat) (wh : List UInt8) (h0 : at0 < 4294967296) (hz : 0 < sz) (hz2 : sz ≤ 1048576) (hc : wh.length ≤ 256) (ha : at_ < 4294967296) (k : Nat) (x : UInt8) (hx : wh[k]? = some x) (he : at_ = at0 + k * sz) (hxf : x ≠ 1) :
    Sat Try.prog 22 [.pointer (some ⟨q, 0, none⟩), .int .u32 at_] [row 89 q [.pointer (some ⟨p, 0, none⟩), .int .u32 at0, .int .i64 sz, .slice (some ⟨wb, 0, none⟩) wh.length wh.length], row 5 wb (wh.map byteV)] (fun u L' => u = .int .i64 3 ∧ L' = [row 89 q [.pointer (some ⟨p, 0, none⟩), .int .u32 at0, .int .i64 sz, .slice (some ⟨wb, 0, none⟩) wh.length wh.length], row 5 wb (wh.map byteV)]) := by
  refine Sat.enter Try.func22 rfl Try.ntmps22 rfl (fun c R => ?_)
  try simp only [List.cons_append, List.nil_append]
  refine T.seq ?_
  refine T.reg ?_
  refine TO.p (DP.as (by conv => lhs; whnf)) ?_
  refine TO.nil ?_
  refine TQ.nn ?_
  refine T.seq ?_
  refine T.reg ?_
  refine TO.p (DP.mv (by conv => lhs; whnf)) ?_
  refine TO.p (DP.mv (by conv => lhs; whnf)) ?_
  refine TO.n (N.callF (turn_state q p wb at0 sz at_ wh 1 _ _ h0 hz hz2 hc ha k x hx he hxf) Try.call49 ⟨rfl, rfl, rfl, rfl, rfl, trivial⟩ (by (repeat first | exact Pick.nil _ | (apply Pick.cons; focus ((repeat first | exact Del.head _ _ | apply Del.tail); done))))) ?_
  rintro u7 _ ⟨_, ⟨rfl, rfl⟩, rfl⟩
  try simp only [List.cons_append, List.nil_append]
  refine TO.p (DP.as (by conv => lhs; whnf)) ?_
  refine TO.nil ?_
  refine TQ.nn ?_
  refine T.ret ?_
  refine TQ.ret (vs := [.int .i64 3]) (L' := [_, _]) rfl ⟨rfl, rfl⟩ ⟨rfl, rfl⟩ (by (refine Ent.imp ?_; repeat first | exact Imp.refl _ | exact Imp.nil _ | (apply Imp.pull; focus ((repeat first | exact Del.head _ _ | apply Del.tail); done)) | (apply Imp.row; focus ((repeat first | exact Del.head _ _ | apply Del.tail); done)) | apply Imp.drop))

theorem pput_out (q p wb at0 sz at_ : Nat) (wh : List UInt8) (h0 : at0 < 4294967296) (hz : 0 < sz) (hz2 : sz ≤ 1048576) (hc : wh.length ≤ 256) (ha : at_ < 4294967296) (hb : ∀ k, k < wh.length → at_ ≠ at0 + k * sz) :
    Sat Try.prog 22 [.pointer (some ⟨q, 0, none⟩), .int .u32 at_] [row 89 q [.pointer (some ⟨p, 0, none⟩), .int .u32 at0, .int .i64 sz, .slice (some ⟨wb, 0, none⟩) wh.length wh.length], row 5 wb (wh.map byteV)] (fun u L' => u = .int .i64 2 ∧ L' = [row 89 q [.pointer (some ⟨p, 0, none⟩), .int .u32 at0, .int .i64 sz, .slice (some ⟨wb, 0, none⟩) wh.length wh.length], row 5 wb (wh.map byteV)]) := by
  refine Sat.enter Try.func22 rfl Try.ntmps22 rfl (fun c R => ?_)
  try simp only [List.cons_append, List.nil_append]
  refine T.seq ?_
  refine T.reg ?_
  refine TO.p (DP.as (by conv => lhs; whnf)) ?_
  refine TO.nil ?_
  refine TQ.nn ?_
  refine T.seq ?_
  refine T.reg ?_
  refine TO.p (DP.mv (by conv => lhs; whnf)) ?_
  refine TO.p (DP.mv (by conv => lhs; whnf)) ?_
  refine TO.n (N.callF (turn_bad q p wb at0 sz at_ wh _ _ _ h0 hz hz2 hc ha hb) Try.call49 ⟨rfl, rfl, rfl, rfl, rfl, trivial⟩ (by (repeat first | exact Pick.nil _ | (apply Pick.cons; focus ((repeat first | exact Del.head _ _ | apply Del.tail); done))))) ?_
  rintro u7 _ ⟨_, ⟨rfl, rfl⟩, rfl⟩
  try simp only [List.cons_append, List.nil_append]
  refine TO.p (DP.as (by conv => lhs; whnf)) ?_
  refine TO.nil ?_
  refine TQ.nn ?_
  refine T.ret ?_
  refine TQ.ret (vs := [.int .i64 2]) (L' := [_, _]) rfl ⟨rfl, rfl⟩ ⟨rfl, rfl⟩ (by (refine Ent.imp ?_; repeat first | exact Imp.refl _ | exact Imp.nil _ | (apply Imp.pull; focus ((repeat first | exact Del.head _ _ | apply Del.tail); done)) | (apply Imp.row; focus ((repeat first | exact Del.head _ _ | apply Del.tail); done)) | apply Imp.drop))

theorem pput_nil (at_ : Nat) :
    Sat Try.prog 22 [.pointer none, .int .u32 at_] [] (fun u L' => u = .int .i64 1 ∧ L' = []) := by
  refine Sat.enter Try.func22 rfl Try.ntmps22 rfl (fun c R => ?_)
  try simp only [List.cons_append, List.nil_append]
  refine T.seq ?_
  refine T.reg ?_
  refine TO.p (DP.as (by conv => lhs; whnf)) ?_
  refine TO.nil ?_
  refine TQ.nn ?_
  refine T.seq ?_
  refine T.reg ?_
  refine TO.p (DP.mv (by conv => lhs; whnf)) ?_
  refine TO.p (DP.mv (by conv => lhs; whnf)) ?_
  refine TO.n (N.callF (turn_nil at_ _ _ _) Try.call49 ⟨rfl, rfl, rfl, rfl, rfl, trivial⟩ (by (repeat first | exact Pick.nil _ | (apply Pick.cons; focus ((repeat first | exact Del.head _ _ | apply Del.tail); done))))) ?_
  rintro u7 _ ⟨_, ⟨rfl, rfl⟩, rfl⟩
  try simp only [List.cons_append, List.nil_append]
  refine TO.p (DP.as (by conv => lhs; whnf)) ?_
  refine TO.nil ?_
  refine TQ.nn ?_
  refine T.ret ?_
  refine TQ.ret (vs := [.int .i64 1]) (L' := []) rfl ⟨rfl, rfl⟩ ⟨rfl, rfl⟩ (by (refine Ent.imp ?_; repeat first | exact Imp.refl _ | exact Imp.nil _ | (apply Imp.pull; focus ((repeat first | exact Del.head _ _ | apply Del.tail); done)) | (apply Imp.row; focus ((repeat first | exact Del.head _ _ | apply Del.tail); done)) | apply Imp.drop))

theorem give_state (q p wb at0 sz at_ : Nat) (wh : List UInt8) (h0 : at0 < 4294967296) (hz : 0 < sz) (hz2 : sz ≤ 1048576) (hc : wh.length ≤ 256) (ha : at_ < 4294967296) (k : Nat) (x : UInt8) (hx : wh[k]? = some x) (he : at_ = at0 + k * sz) (hxf : x ≠ 1) :
    Sat Try.prog 23 [.pointer (some ⟨q, 0, none⟩), .int .u32 at_] [row 89 q [.pointer (some ⟨p, 0, none⟩), .int .u32 at0, .int .i64 sz, .slice (some ⟨wb, 0, none⟩) wh.length wh.length], row 5 wb (wh.map byteV)] (fun u L' => u = .int .i64 3 ∧ L' = [row 89 q [.pointer (some ⟨p, 0, none⟩), .int .u32 at0, .int .i64 sz, .slice (some ⟨wb, 0, none⟩) wh.length wh.length], row 5 wb (wh.map byteV)]) := by
  refine Sat.enter Try.func23 rfl Try.ntmps23 rfl (fun c R => ?_)
  try simp only [List.cons_append, List.nil_append]
  refine T.seq ?_
  refine T.reg ?_
  refine TO.n (N.bx1 (by conv => lhs; whnf) (by rfl)) ?_
  rintro _ _ ⟨b2, rfl, rfl⟩
  refine TO.p (DP.as (by conv => lhs; whnf)) ?_
  refine TO.nil ?_
  refine TQ.nn ?_
  refine T.seq ?_
  refine T.reg ?_
  refine TO.d (D.ldR rfl pl46 (by (repeat first | exact LMem.head _ _ | apply LMem.tail)) (by rfl)) ?_
  refine TO.p (DP.mv (by conv => lhs; whnf)) ?_
  refine TO.p (DP.mfL (us := []) (vs := [_]) trivial ⟨(by conv => lhs; whnf), trivial⟩) ?_
  refine TO.n (N.callF (turn_state q p wb at0 sz at_ wh 1 _ _ h0 hz hz2 hc ha k x hx he hxf) Try.call49 ⟨rfl, rfl, rfl, rfl, rfl, trivial⟩ (by (repeat first | exact Pick.nil _ | (apply Pick.cons; focus ((repeat first | exact Del.head _ _ | apply Del.tail); done))))) ?_
  rintro u8 _ ⟨_, ⟨rfl, rfl⟩, rfl⟩
  try simp only [List.cons_append, List.nil_append]
  refine TO.p (DP.as (by conv => lhs; whnf)) ?_
  refine TO.nil ?_
  refine TQ.nn ?_
  refine T.ret ?_
  refine TQ.ret (vs := [.int .i64 3]) (L' := [_, _]) rfl ⟨rfl, rfl⟩ ⟨rfl, rfl⟩ (by (refine Ent.imp ?_; repeat first | exact Imp.refl _ | exact Imp.nil _ | (apply Imp.pull; focus ((repeat first | exact Del.head _ _ | apply Del.tail); done)) | (apply Imp.row; focus ((repeat first | exact Del.head _ _ | apply Del.tail); done)) | apply Imp.drop))

theorem give_out (q p wb at0 sz at_ : Nat) (wh : List UInt8) (h0 : at0 < 4294967296) (hz : 0 < sz) (hz2 : sz ≤ 1048576) (hc : wh.length ≤ 256) (ha : at_ < 4294967296) (hb : ∀ k, k < wh.length → at_ ≠ at0 + k * sz) :
    Sat Try.prog 23 [.pointer (some ⟨q, 0, none⟩), .int .u32 at_] [row 89 q [.pointer (some ⟨p, 0, none⟩), .int .u32 at0, .int .i64 sz, .slice (some ⟨wb, 0, none⟩) wh.length wh.length], row 5 wb (wh.map byteV)] (fun u L' => u = .int .i64 2 ∧ L' = [row 89 q [.pointer (some ⟨p, 0, none⟩), .int .u32 at0, .int .i64 sz, .slice (some ⟨wb, 0, none⟩) wh.length wh.length], row 5 wb (wh.map byteV)]) := by
  refine Sat.enter Try.func23 rfl Try.ntmps23 rfl (fun c R => ?_)
  try simp only [List.cons_append, List.nil_append]
  refine T.seq ?_
  refine T.reg ?_
  refine TO.n (N.bx1 (by conv => lhs; whnf) (by rfl)) ?_
  rintro _ _ ⟨b2, rfl, rfl⟩
  refine TO.p (DP.as (by conv => lhs; whnf)) ?_
  refine TO.nil ?_
  refine TQ.nn ?_
  refine T.seq ?_
  refine T.reg ?_
  refine TO.d (D.ldR rfl pl46 (by (repeat first | exact LMem.head _ _ | apply LMem.tail)) (by rfl)) ?_
  refine TO.p (DP.mv (by conv => lhs; whnf)) ?_
  refine TO.p (DP.mfL (us := []) (vs := [_]) trivial ⟨(by conv => lhs; whnf), trivial⟩) ?_
  refine TO.n (N.callF (turn_bad q p wb at0 sz at_ wh _ _ _ h0 hz hz2 hc ha hb) Try.call49 ⟨rfl, rfl, rfl, rfl, rfl, trivial⟩ (by (repeat first | exact Pick.nil _ | (apply Pick.cons; focus ((repeat first | exact Del.head _ _ | apply Del.tail); done))))) ?_
  rintro u8 _ ⟨_, ⟨rfl, rfl⟩, rfl⟩
  try simp only [List.cons_append, List.nil_append]
  refine TO.p (DP.as (by conv => lhs; whnf)) ?_
  refine TO.nil ?_
  refine TQ.nn ?_
  refine T.ret ?_
  refine TQ.ret (vs := [.int .i64 2]) (L' := [_, _]) rfl ⟨rfl, rfl⟩ ⟨rfl, rfl⟩ (by (refine Ent.imp ?_; repeat first | exact Imp.refl _ | exact Imp.nil _ | (apply Imp.pull; focus ((repeat first | exact Del.head _ _ | apply Del.tail); done)) | (apply Imp.row; focus ((repeat first | exact Del.head _ _ | apply Del.tail); done)) | apply Imp.drop))

theorem give_nil (at_ : Nat) :
    Sat Try.prog 23 [.pointer none, .int .u32 at_] [] (fun u L' => u = .int .i64 1 ∧ L' = []) := by
  refine Sat.enter Try.func23 rfl Try.ntmps23 rfl (fun c R => ?_)
  try simp only [List.cons_append, List.nil_append]
  refine T.seq ?_
  refine T.reg ?_
  refine TO.n (N.bx1 (by conv => lhs; whnf) (by rfl)) ?_
  rintro _ _ ⟨b2, rfl, rfl⟩
  refine TO.p (DP.as (by conv => lhs; whnf)) ?_
  refine TO.nil ?_
  refine TQ.nn ?_
  refine T.seq ?_
  refine T.reg ?_
  refine TO.d (D.ldR rfl pl46 (by (repeat first | exact LMem.head _ _ | apply LMem.tail)) (by rfl)) ?_
  refine TO.p (DP.mv (by conv => lhs; whnf)) ?_
  refine TO.p (DP.mfL (us := []) (vs := [_]) trivial ⟨(by conv => lhs; whnf), trivial⟩) ?_
  refine TO.n (N.callF (turn_nil at_ _ _ _) Try.call49 ⟨rfl, rfl, rfl, rfl, rfl, trivial⟩ (by (repeat first | exact Pick.nil _ | (apply Pick.cons; focus ((repeat first | exact Del.head _ _ | apply Del.tail); done))))) ?_
  rintro u8 _ ⟨_, ⟨rfl, rfl⟩, rfl⟩
  try simp only [List.cons_append, List.nil_append]
  refine TO.p (DP.as (by conv => lhs; whnf)) ?_
  refine TO.nil ?_
  refine TQ.nn ?_
  refine T.ret ?_
  refine TQ.ret (vs := [.int .i64 1]) (L' := []) rfl ⟨rfl, rfl⟩ ⟨rfl, rfl⟩ (by (refine Ent.imp ?_; repeat first | exact Imp.refl _ | exact Imp.nil _ | (apply Imp.pull; focus ((repeat first | exact Del.head _ _ | apply Del.tail); done)) | (apply Imp.row; focus ((repeat first | exact Del.head _ _ | apply Del.tail); done)) | apply Imp.drop))

theorem take_state (q p wb at0 sz at_ : Nat) (wh : List UInt8) (h0 : at0 < 4294967296) (hz : 0 < sz) (hz2 : sz ≤ 1048576) (hc : wh.length ≤ 256) (ha : at_ < 4294967296) (k : Nat) (x : UInt8) (hx : wh[k]? = some x) (he : at_ = at0 + k * sz) (hxf : x ≠ 2) :
    Sat Try.prog 24 [.pointer (some ⟨q, 0, none⟩), .int .u32 at_] [row 89 q [.pointer (some ⟨p, 0, none⟩), .int .u32 at0, .int .i64 sz, .slice (some ⟨wb, 0, none⟩) wh.length wh.length], row 5 wb (wh.map byteV)] (fun u L' => u = .int .i64 3 ∧ L' = [row 89 q [.pointer (some ⟨p, 0, none⟩), .int .u32 at0, .int .i64 sz, .slice (some ⟨wb, 0, none⟩) wh.length wh.length], row 5 wb (wh.map byteV)]) := by
  refine Sat.enter Try.func24 rfl Try.ntmps24 rfl (fun c R => ?_)
  try simp only [List.cons_append, List.nil_append]
  refine T.seq ?_
  refine T.reg ?_
  refine TO.n (N.bx1 (by conv => lhs; whnf) (by rfl)) ?_
  rintro _ _ ⟨b2, rfl, rfl⟩
  refine TO.p (DP.as (by conv => lhs; whnf)) ?_
  refine TO.nil ?_
  refine TQ.nn ?_
  refine T.seq ?_
  refine T.reg ?_
  refine TO.d (D.ldR rfl pl46 (by (repeat first | exact LMem.head _ _ | apply LMem.tail)) (by rfl)) ?_
  refine TO.p (DP.mv (by conv => lhs; whnf)) ?_
  refine TO.p (DP.mfL (us := []) (vs := [_]) trivial ⟨(by conv => lhs; whnf), trivial⟩) ?_
  refine TO.n (N.callF (turn_state q p wb at0 sz at_ wh 2 _ _ h0 hz hz2 hc ha k x hx he hxf) Try.call49 ⟨rfl, rfl, rfl, rfl, rfl, trivial⟩ (by (repeat first | exact Pick.nil _ | (apply Pick.cons; focus ((repeat first | exact Del.head _ _ | apply Del.tail); done))))) ?_
  rintro u8 _ ⟨_, ⟨rfl, rfl⟩, rfl⟩
  try simp only [List.cons_append, List.nil_append]
  refine TO.p (DP.as (by conv => lhs; whnf)) ?_
  refine TO.nil ?_
  refine TQ.nn ?_
  refine T.ret ?_
  refine TQ.ret (vs := [.int .i64 3]) (L' := [_, _]) rfl ⟨rfl, rfl⟩ ⟨rfl, rfl⟩ (by (refine Ent.imp ?_; repeat first | exact Imp.refl _ | exact Imp.nil _ | (apply Imp.pull; focus ((repeat first | exact Del.head _ _ | apply Del.tail); done)) | (apply Imp.row; focus ((repeat first | exact Del.head _ _ | apply Del.tail); done)) | apply Imp.drop))

theorem take_out (q p wb at0 sz at_ : Nat) (wh : List UInt8) (h0 : at0 < 4294967296) (hz : 0 < sz) (hz2 : sz ≤ 1048576) (hc : wh.length ≤ 256) (ha : at_ < 4294967296) (hb : ∀ k, k < wh.length → at_ ≠ at0 + k * sz) :
    Sat Try.prog 24 [.pointer (some ⟨q, 0, none⟩), .int .u32 at_] [row 89 q [.pointer (some ⟨p, 0, none⟩), .int .u32 at0, .int .i64 sz, .slice (some ⟨wb, 0, none⟩) wh.length wh.length], row 5 wb (wh.map byteV)] (fun u L' => u = .int .i64 2 ∧ L' = [row 89 q [.pointer (some ⟨p, 0, none⟩), .int .u32 at0, .int .i64 sz, .slice (some ⟨wb, 0, none⟩) wh.length wh.length], row 5 wb (wh.map byteV)]) := by
  refine Sat.enter Try.func24 rfl Try.ntmps24 rfl (fun c R => ?_)
  try simp only [List.cons_append, List.nil_append]
  refine T.seq ?_
  refine T.reg ?_
  refine TO.n (N.bx1 (by conv => lhs; whnf) (by rfl)) ?_
  rintro _ _ ⟨b2, rfl, rfl⟩
  refine TO.p (DP.as (by conv => lhs; whnf)) ?_
  refine TO.nil ?_
  refine TQ.nn ?_
  refine T.seq ?_
  refine T.reg ?_
  refine TO.d (D.ldR rfl pl46 (by (repeat first | exact LMem.head _ _ | apply LMem.tail)) (by rfl)) ?_
  refine TO.p (DP.mv (by conv => lhs; whnf)) ?_
  refine TO.p (DP.mfL (us := []) (vs := [_]) trivial ⟨(by conv => lhs; whnf), trivial⟩) ?_
  refine TO.n (N.callF (turn_bad q p wb at0 sz at_ wh _ _ _ h0 hz hz2 hc ha hb) Try.call49 ⟨rfl, rfl, rfl, rfl, rfl, trivial⟩ (by (repeat first | exact Pick.nil _ | (apply Pick.cons; focus ((repeat first | exact Del.head _ _ | apply Del.tail); done))))) ?_
  rintro u8 _ ⟨_, ⟨rfl, rfl⟩, rfl⟩
  try simp only [List.cons_append, List.nil_append]
  refine TO.p (DP.as (by conv => lhs; whnf)) ?_
  refine TO.nil ?_
  refine TQ.nn ?_
  refine T.ret ?_
  refine TQ.ret (vs := [.int .i64 2]) (L' := [_, _]) rfl ⟨rfl, rfl⟩ ⟨rfl, rfl⟩ (by (refine Ent.imp ?_; repeat first | exact Imp.refl _ | exact Imp.nil _ | (apply Imp.pull; focus ((repeat first | exact Del.head _ _ | apply Del.tail); done)) | (apply Imp.row; focus ((repeat first | exact Del.head _ _ | apply Del.tail); done)) | apply Imp.drop))

theorem take_nil (at_ : Nat) :
    Sat Try.prog 24 [.pointer none, .int .u32 at_] [] (fun u L' => u = .int .i64 1 ∧ L' = []) := by
  refine Sat.enter Try.func24 rfl Try.ntmps24 rfl (fun c R => ?_)
  try simp only [List.cons_append, List.nil_append]
  refine T.seq ?_
  refine T.reg ?_
  refine TO.n (N.bx1 (by conv => lhs; whnf) (by rfl)) ?_
  rintro _ _ ⟨b2, rfl, rfl⟩
  refine TO.p (DP.as (by conv => lhs; whnf)) ?_
  refine TO.nil ?_
  refine TQ.nn ?_
  refine T.seq ?_
  refine T.reg ?_
  refine TO.d (D.ldR rfl pl46 (by (repeat first | exact LMem.head _ _ | apply LMem.tail)) (by rfl)) ?_
  refine TO.p (DP.mv (by conv => lhs; whnf)) ?_
  refine TO.p (DP.mfL (us := []) (vs := [_]) trivial ⟨(by conv => lhs; whnf), trivial⟩) ?_
  refine TO.n (N.callF (turn_nil at_ _ _ _) Try.call49 ⟨rfl, rfl, rfl, rfl, rfl, trivial⟩ (by (repeat first | exact Pick.nil _ | (apply Pick.cons; focus ((repeat first | exact Del.head _ _ | apply Del.tail); done))))) ?_
  rintro u8 _ ⟨_, ⟨rfl, rfl⟩, rfl⟩
  try simp only [List.cons_append, List.nil_append]
  refine TO.p (DP.as (by conv => lhs; whnf)) ?_
  refine TO.nil ?_
  refine TQ.nn ?_
  refine T.ret ?_
  refine TQ.ret (vs := [.int .i64 1]) (L' := []) rfl ⟨rfl, rfl⟩ ⟨rfl, rfl⟩ (by (refine Ent.imp ?_; repeat first | exact Imp.refl _ | exact Imp.nil _ | (apply Imp.pull; focus ((repeat first | exact Del.head _ _ | apply Del.tail); done)) | (apply Imp.row; focus ((repeat first | exact Del.head _ _ | apply Del.tail); done)) | apply Imp.drop))

theorem give_ok (q p wb b at0 sz at_ : Nat) (wh : List UInt8) (v : Value) (bs : List UInt8) (ss : List Spn) (h0 : at0 < 4294967296) (hz : 0 < sz) (hz2 : sz ≤ 1048576) (hc : wh.length ≤ 256) (ha : at_ < 4294967296) (hbs : bs.length ≤ 1048576) (hlen : ss.length ≤ 1048576) (hb : ∀ s ∈ ss, s.1 + s.2 ≤ 1048576) (hin : at_ + sz ≤ bs.length) (k : Nat) (hx : wh[k]? = some 1) (he : at_ = at0 + k * sz) (hs : sharedN ss at_ sz = 0) (hsort : ∀ (m h : Nat) (x y : Spn), m ≤ h → ss[m]? = some x → ss[h]? = some y → x.1 ≤ y.1) :
    Sat Try.prog 23 [.pointer (some ⟨q, 0, none⟩), .int .u32 at_] [row 89 q [.pointer (some ⟨p, 0, none⟩), .int .u32 at0, .int .i64 sz, .slice (some ⟨wb, 0, none⟩) wh.length wh.length], row 5 wb (wh.map byteV), row 78 p [.slice (some ⟨b, 0, none⟩) bs.length bs.length, v], row 5 b (bs.map byteV), sl 42 2 v ss.length (spans ss)] (fun u L' => ∃ v' pre post, u = .int .i64 0 ∧ ss = pre ++ post ∧ (∀ s ∈ pre, s.1 < at_) ∧ (∀ s ∈ post, at_ ≤ s.1) ∧ L' = [row 89 q [.pointer (some ⟨p, 0, none⟩), .int .u32 at0, .int .i64 sz, .slice (some ⟨wb, 0, none⟩) wh.length wh.length], row 5 wb ((wh.set k 2).map byteV), row 78 p [.slice (some ⟨b, 0, none⟩) bs.length bs.length, v'], row 5 b (bs.map byteV), sl 42 2 v' (mergeP pre at_ (mergeN at_ sz post).1 (mergeN at_ sz post).2).length (spans (mergeP pre at_ (mergeN at_ sz post).1 (mergeN at_ sz post).2))]) := by
  refine Sat.enter Try.func23 rfl Try.ntmps23 rfl (fun c R => ?_)
  try simp only [List.cons_append, List.nil_append]
  refine T.seq ?_
  refine T.reg ?_
  refine TO.n (N.bx1 (by conv => lhs; whnf) (by rfl)) ?_
  rintro _ _ ⟨b2, rfl, rfl⟩
  refine TO.p (DP.as (by conv => lhs; whnf)) ?_
  refine TO.nil ?_
  refine TQ.nn ?_
  refine T.seq ?_
  refine T.reg ?_
  refine TO.d (D.ldR rfl pl46 (by (repeat first | exact LMem.head _ _ | apply LMem.tail)) (by rfl)) ?_
  refine TO.p (DP.mv (by conv => lhs; whnf)) ?_
  refine TO.p (DP.mfL (us := []) (vs := [_]) trivial ⟨(by conv => lhs; whnf), trivial⟩) ?_
  refine TO.n (N.callF (turn_give b2 q p wb b at0 sz at_ wh v bs ss h0 hz hz2 hc ha hbs hlen hb hin k hx he hs hsort) Try.call49 ⟨rfl, rfl, rfl, rfl, rfl, trivial⟩ (by (repeat first | exact Pick.nil _ | (apply Pick.cons; focus ((repeat first | exact Del.head _ _ | apply Del.tail); done))))) ?_
  rintro u8 _ ⟨_, ⟨v9, pre, post, rfl, hss, h1, h2, rfl⟩, rfl⟩
  try simp only [List.cons_append, List.nil_append]
  refine TO.p (DP.as (by conv => lhs; whnf)) ?_
  refine TO.nil ?_
  refine TQ.nn ?_
  refine T.ret ?_
  refine TQ.ret (vs := [.int .i64 0]) (L' := [row 89 q [.pointer (some ⟨p, 0, none⟩), .int .u32 at0, .int .i64 sz, .slice (some ⟨wb, 0, none⟩) wh.length wh.length], row 5 wb ((wh.set k 2).map byteV), row 78 p [.slice (some ⟨b, 0, none⟩) bs.length bs.length, v9], row 5 b (bs.map byteV), sl 42 2 v9 (mergeP pre at_ (mergeN at_ sz post).1 (mergeN at_ sz post).2).length (spans (mergeP pre at_ (mergeN at_ sz post).1 (mergeN at_ sz post).2))]) rfl ⟨rfl, rfl⟩ ⟨v9, pre, post, rfl, hss, h1, h2, rfl⟩ (by (refine Ent.imp ?_; repeat first | exact Imp.refl _ | exact Imp.nil _ | (apply Imp.pull; focus ((repeat first | exact Del.head _ _ | apply Del.tail); done)) | (apply Imp.row; focus ((repeat first | exact Del.head _ _ | apply Del.tail); done)) | apply Imp.drop))

theorem give_bad (q p wb b at0 sz at_ : Nat) (wh : List UInt8) (v : Value) (bs : List UInt8) (ss : List Spn) (h0 : at0 < 4294967296) (hz : 0 < sz) (hz2 : sz ≤ 1048576) (hc : wh.length ≤ 256) (ha : at_ < 4294967296) (hbs : bs.length ≤ 1048576) (hlen : ss.length ≤ 1048576) (hb : ∀ s ∈ ss, s.1 + s.2 ≤ 1048576) (hin : at_ + sz ≤ bs.length) (k : Nat) (hx : wh[k]? = some 1) (he : at_ = at0 + k * sz) (hs : 0 < sharedN ss at_ sz) :
    Sat Try.prog 23 [.pointer (some ⟨q, 0, none⟩), .int .u32 at_] [row 89 q [.pointer (some ⟨p, 0, none⟩), .int .u32 at0, .int .i64 sz, .slice (some ⟨wb, 0, none⟩) wh.length wh.length], row 5 wb (wh.map byteV), row 78 p [.slice (some ⟨b, 0, none⟩) bs.length bs.length, v], row 5 b (bs.map byteV), sl 42 2 v ss.length (spans ss)] (fun u L' => u = .int .i64 11 ∧ L' = [row 89 q [.pointer (some ⟨p, 0, none⟩), .int .u32 at0, .int .i64 sz, .slice (some ⟨wb, 0, none⟩) wh.length wh.length], row 5 wb (wh.map byteV), row 78 p [.slice (some ⟨b, 0, none⟩) bs.length bs.length, v], row 5 b (bs.map byteV), sl 42 2 v ss.length (spans ss)]) := by
  refine Sat.enter Try.func23 rfl Try.ntmps23 rfl (fun c R => ?_)
  try simp only [List.cons_append, List.nil_append]
  refine T.seq ?_
  refine T.reg ?_
  refine TO.n (N.bx1 (by conv => lhs; whnf) (by rfl)) ?_
  rintro _ _ ⟨b2, rfl, rfl⟩
  refine TO.p (DP.as (by conv => lhs; whnf)) ?_
  refine TO.nil ?_
  refine TQ.nn ?_
  refine T.seq ?_
  refine T.reg ?_
  refine TO.d (D.ldR rfl pl46 (by (repeat first | exact LMem.head _ _ | apply LMem.tail)) (by rfl)) ?_
  refine TO.p (DP.mv (by conv => lhs; whnf)) ?_
  refine TO.p (DP.mfL (us := []) (vs := [_]) trivial ⟨(by conv => lhs; whnf), trivial⟩) ?_
  refine TO.n (N.callF (turn_give_bad b2 q p wb b at0 sz at_ wh v bs ss h0 hz hz2 hc ha hbs hlen hb hin k hx he hs) Try.call49 ⟨rfl, rfl, rfl, rfl, rfl, trivial⟩ (by (repeat first | exact Pick.nil _ | (apply Pick.cons; focus ((repeat first | exact Del.head _ _ | apply Del.tail); done))))) ?_
  rintro u8 _ ⟨_, ⟨rfl, rfl⟩, rfl⟩
  try simp only [List.cons_append, List.nil_append]
  refine TO.p (DP.as (by conv => lhs; whnf)) ?_
  refine TO.nil ?_
  refine TQ.nn ?_
  refine T.ret ?_
  refine TQ.ret (vs := [.int .i64 11]) (L' := [row 89 q [.pointer (some ⟨p, 0, none⟩), .int .u32 at0, .int .i64 sz, .slice (some ⟨wb, 0, none⟩) wh.length wh.length], row 5 wb (wh.map byteV), row 78 p [.slice (some ⟨b, 0, none⟩) bs.length bs.length, v], row 5 b (bs.map byteV), sl 42 2 v ss.length (spans ss)]) rfl ⟨rfl, rfl⟩ ⟨rfl, rfl⟩ (by (refine Ent.imp ?_; repeat first | exact Imp.refl _ | exact Imp.nil _ | (apply Imp.pull; focus ((repeat first | exact Del.head _ _ | apply Del.tail); done)) | (apply Imp.row; focus ((repeat first | exact Del.head _ _ | apply Del.tail); done)) | apply Imp.drop))

theorem take_ok (q p wb b at0 sz at_ : Nat) (wh : List UInt8) (v : Value) (bs : List UInt8) (ss : List Spn) (h0 : at0 < 4294967296) (hz : 0 < sz) (hz2 : sz ≤ 1048576) (hc : wh.length ≤ 256) (ha : at_ < 4294967296) (hbs : bs.length ≤ 1048576) (hlen : ss.length ≤ 1048576) (hb : ∀ s ∈ ss, s.1 + s.2 ≤ 1048576) (hin : at_ + sz ≤ bs.length) (k : Nat) (hx : wh[k]? = some 2) (he : at_ = at0 + k * sz) (hs : sz ≤ sharedN ss at_ sz) :
    Sat Try.prog 24 [.pointer (some ⟨q, 0, none⟩), .int .u32 at_] [row 89 q [.pointer (some ⟨p, 0, none⟩), .int .u32 at0, .int .i64 sz, .slice (some ⟨wb, 0, none⟩) wh.length wh.length], row 5 wb (wh.map byteV), row 78 p [.slice (some ⟨b, 0, none⟩) bs.length bs.length, v], row 5 b (bs.map byteV), sl 42 2 v ss.length (spans ss)] (fun u L' => ∃ v', u = .int .i64 0 ∧ L' = [row 89 q [.pointer (some ⟨p, 0, none⟩), .int .u32 at0, .int .i64 sz, .slice (some ⟨wb, 0, none⟩) wh.length wh.length], row 5 wb ((wh.set k 1).map byteV), row 78 p [.slice (some ⟨b, 0, none⟩) bs.length bs.length, v'], row 5 b (bs.map byteV), sl 42 2 v' (backL at_ sz ss).length (spans (backL at_ sz ss))]) := by
  refine Sat.enter Try.func24 rfl Try.ntmps24 rfl (fun c R => ?_)
  try simp only [List.cons_append, List.nil_append]
  refine T.seq ?_
  refine T.reg ?_
  refine TO.n (N.bx1 (by conv => lhs; whnf) (by rfl)) ?_
  rintro _ _ ⟨b2, rfl, rfl⟩
  refine TO.p (DP.as (by conv => lhs; whnf)) ?_
  refine TO.nil ?_
  refine TQ.nn ?_
  refine T.seq ?_
  refine T.reg ?_
  refine TO.d (D.ldR rfl pl46 (by (repeat first | exact LMem.head _ _ | apply LMem.tail)) (by rfl)) ?_
  refine TO.p (DP.mv (by conv => lhs; whnf)) ?_
  refine TO.p (DP.mfL (us := []) (vs := [_]) trivial ⟨(by conv => lhs; whnf), trivial⟩) ?_
  refine TO.n (N.callF (turn_take b2 q p wb b at0 sz at_ wh v bs ss h0 hz hz2 hc ha hbs hlen hb hin k hx he hs) Try.call49 ⟨rfl, rfl, rfl, rfl, rfl, trivial⟩ (by (repeat first | exact Pick.nil _ | (apply Pick.cons; focus ((repeat first | exact Del.head _ _ | apply Del.tail); done))))) ?_
  rintro u8 _ ⟨_, ⟨v9, rfl, rfl⟩, rfl⟩
  try simp only [List.cons_append, List.nil_append]
  refine TO.p (DP.as (by conv => lhs; whnf)) ?_
  refine TO.nil ?_
  refine TQ.nn ?_
  refine T.ret ?_
  refine TQ.ret (vs := [.int .i64 0]) (L' := [row 89 q [.pointer (some ⟨p, 0, none⟩), .int .u32 at0, .int .i64 sz, .slice (some ⟨wb, 0, none⟩) wh.length wh.length], row 5 wb ((wh.set k 1).map byteV), row 78 p [.slice (some ⟨b, 0, none⟩) bs.length bs.length, v9], row 5 b (bs.map byteV), sl 42 2 v9 (backL at_ sz ss).length (spans (backL at_ sz ss))]) rfl ⟨rfl, rfl⟩ ⟨v9, rfl, rfl⟩ (by (refine Ent.imp ?_; repeat first | exact Imp.refl _ | exact Imp.nil _ | (apply Imp.pull; focus ((repeat first | exact Del.head _ _ | apply Del.tail); done)) | (apply Imp.row; focus ((repeat first | exact Del.head _ _ | apply Del.tail); done)) | apply Imp.drop))

theorem take_bad (q p wb b at0 sz at_ : Nat) (wh : List UInt8) (v : Value) (bs : List UInt8) (ss : List Spn) (h0 : at0 < 4294967296) (hz : 0 < sz) (hz2 : sz ≤ 1048576) (hc : wh.length ≤ 256) (ha : at_ < 4294967296) (hbs : bs.length ≤ 1048576) (hlen : ss.length ≤ 1048576) (hb : ∀ s ∈ ss, s.1 + s.2 ≤ 1048576) (hin : at_ + sz ≤ bs.length) (k : Nat) (hx : wh[k]? = some 2) (he : at_ = at0 + k * sz) (hs : sharedN ss at_ sz < sz) :
    Sat Try.prog 24 [.pointer (some ⟨q, 0, none⟩), .int .u32 at_] [row 89 q [.pointer (some ⟨p, 0, none⟩), .int .u32 at0, .int .i64 sz, .slice (some ⟨wb, 0, none⟩) wh.length wh.length], row 5 wb (wh.map byteV), row 78 p [.slice (some ⟨b, 0, none⟩) bs.length bs.length, v], row 5 b (bs.map byteV), sl 42 2 v ss.length (spans ss)] (fun u L' => u = .int .i64 12 ∧ L' = [row 89 q [.pointer (some ⟨p, 0, none⟩), .int .u32 at0, .int .i64 sz, .slice (some ⟨wb, 0, none⟩) wh.length wh.length], row 5 wb (wh.map byteV), row 78 p [.slice (some ⟨b, 0, none⟩) bs.length bs.length, v], row 5 b (bs.map byteV), sl 42 2 v ss.length (spans ss)]) := by
  refine Sat.enter Try.func24 rfl Try.ntmps24 rfl (fun c R => ?_)
  try simp only [List.cons_append, List.nil_append]
  refine T.seq ?_
  refine T.reg ?_
  refine TO.n (N.bx1 (by conv => lhs; whnf) (by rfl)) ?_
  rintro _ _ ⟨b2, rfl, rfl⟩
  refine TO.p (DP.as (by conv => lhs; whnf)) ?_
  refine TO.nil ?_
  refine TQ.nn ?_
  refine T.seq ?_
  refine T.reg ?_
  refine TO.d (D.ldR rfl pl46 (by (repeat first | exact LMem.head _ _ | apply LMem.tail)) (by rfl)) ?_
  refine TO.p (DP.mv (by conv => lhs; whnf)) ?_
  refine TO.p (DP.mfL (us := []) (vs := [_]) trivial ⟨(by conv => lhs; whnf), trivial⟩) ?_
  refine TO.n (N.callF (turn_take_bad b2 q p wb b at0 sz at_ wh v bs ss h0 hz hz2 hc ha hbs hlen hb hin k hx he hs) Try.call49 ⟨rfl, rfl, rfl, rfl, rfl, trivial⟩ (by (repeat first | exact Pick.nil _ | (apply Pick.cons; focus ((repeat first | exact Del.head _ _ | apply Del.tail); done))))) ?_
  rintro u8 _ ⟨_, ⟨rfl, rfl⟩, rfl⟩
  try simp only [List.cons_append, List.nil_append]
  refine TO.p (DP.as (by conv => lhs; whnf)) ?_
  refine TO.nil ?_
  refine TQ.nn ?_
  refine T.ret ?_
  refine TQ.ret (vs := [.int .i64 12]) (L' := [row 89 q [.pointer (some ⟨p, 0, none⟩), .int .u32 at0, .int .i64 sz, .slice (some ⟨wb, 0, none⟩) wh.length wh.length], row 5 wb (wh.map byteV), row 78 p [.slice (some ⟨b, 0, none⟩) bs.length bs.length, v], row 5 b (bs.map byteV), sl 42 2 v ss.length (spans ss)]) rfl ⟨rfl, rfl⟩ ⟨rfl, rfl⟩ (by (refine Ent.imp ?_; repeat first | exact Imp.refl _ | exact Imp.nil _ | (apply Imp.pull; focus ((repeat first | exact Del.head _ _ | apply Del.tail); done)) | (apply Imp.row; focus ((repeat first | exact Del.head _ _ | apply Del.tail); done)) | apply Imp.drop))

theorem newpool_arg (p n b at_ : Nat) (v : Value) (s t : Int) (hp : s < 1 ∨ t < 1 ∨ 256 < t) :
    Sat Try.prog 19 [.pointer (some ⟨p, 0, none⟩), .int .u32 at_, .int .i64 s, .int .i64 t] [row 78 p [.slice (some ⟨b, 0, none⟩) n n, v]] (fun u L' => u = .tuple #[.pointer none, .int .i64 2] ∧ L' = [row 78 p [.slice (some ⟨b, 0, none⟩) n n, v]]) := by
  refine Sat.enter Try.func19 rfl Try.ntmps19 rfl (fun c R => ?_)
  try simp only [List.cons_append, List.nil_append]
  refine T.seq ?_
  refine T.reg ?_
  refine TO.p (DP.as (by conv => lhs; whnf)) ?_
  refine TO.p (DP.as (by conv => lhs; whnf)) ?_
  refine TO.nil ?_
  refine TQ.nn ?_
  refine T.seq ?_
  refine T.block ?_
  refine T.seq ?_
  refine T.reg ?_
  refine TO.p (DP.mv (by conv => lhs; whnf)) ?_
  refine TO.p (DP.peqS rfl rfl Try.underlying26) ?_
  refine TO.p (DP.as (by conv => lhs; whnf)) ?_
  refine TO.nil ?_
  refine TQ.nn ?_
  refine T.condF rfl ?_
  refine T.seq ?_
  refine T.seq ?_
  refine T.reg ?_
  refine TO.p (DP.mv (by conv => lhs; whnf)) ?_
  refine TO.p (DP.lssI rfl rfl) ?_
  refine TO.p (DP.as (by conv => lhs; whnf)) ?_
  refine TO.nil ?_
  refine TQ.nn ?_
  refine T.condD rfl (fun hc1 => ?_) (fun hc1 => ?_)
  · refine T.skip ?_
    refine TQ.nn ?_
    refine T.condD rfl (fun hc3 => ?_) (fun hc3 => ?_)
    · refine T.seq ?_
      refine T.reg ?_
      refine TO.p (DP.as (by conv => lhs; whnf)) ?_
      refine TO.p (DP.as (by conv => lhs; whnf)) ?_
      refine TO.nil ?_
      refine TQ.nn ?_
      refine T.ret ?_
      refine TQ.br ?_
      refine TQ.nr ?_
      refine TQ.ret (vs := [.pointer none, .int .i64 2]) (L' := [_]) rfl ⟨rfl, rfl, rfl⟩ ⟨rfl, rfl⟩ (by (refine Ent.imp ?_; repeat first | exact Imp.refl _ | exact Imp.nil _ | (apply Imp.pull; focus ((repeat first | exact Del.head _ _ | apply Del.tail); done)) | (apply Imp.row; focus ((repeat first | exact Del.head _ _ | apply Del.tail); done)) | apply Imp.drop))
    · exact absurd hp (by omega)
  · refine T.seq ?_
    refine T.reg ?_
    refine TO.p (DP.mv (by conv => lhs; whnf)) ?_
    refine TO.p (DP.lssI rfl rfl) ?_
    refine TO.p (DP.as (by conv => lhs; whnf)) ?_
    refine TO.nil ?_
    refine TQ.nn ?_
    refine T.condD rfl (fun hc2 => ?_) (fun hc2 => ?_)
    · refine T.skip ?_
      refine TQ.nn ?_
      refine T.condD rfl (fun hc3 => ?_) (fun hc3 => ?_)
      · refine T.seq ?_
        refine T.reg ?_
        refine TO.p (DP.as (by conv => lhs; whnf)) ?_
        refine TO.p (DP.as (by conv => lhs; whnf)) ?_
        refine TO.nil ?_
        refine TQ.nn ?_
        refine T.ret ?_
        refine TQ.br ?_
        refine TQ.nr ?_
        refine TQ.ret (vs := [.pointer none, .int .i64 2]) (L' := [_]) rfl ⟨rfl, rfl, rfl⟩ ⟨rfl, rfl⟩ (by (refine Ent.imp ?_; repeat first | exact Imp.refl _ | exact Imp.nil _ | (apply Imp.pull; focus ((repeat first | exact Del.head _ _ | apply Del.tail); done)) | (apply Imp.row; focus ((repeat first | exact Del.head _ _ | apply Del.tail); done)) | apply Imp.drop))
      · exact absurd hp (by omega)
    · refine T.reg ?_
      refine TO.p (DP.mv (by conv => lhs; whnf)) ?_
      refine TO.p (DP.gtrI rfl rfl) ?_
      refine TO.p (DP.as (by conv => lhs; whnf)) ?_
      refine TO.nil ?_
      refine TQ.nn ?_
      refine T.condD rfl (fun hc3 => ?_) (fun hc3 => ?_)
      · refine T.seq ?_
        refine T.reg ?_
        refine TO.p (DP.as (by conv => lhs; whnf)) ?_
        refine TO.p (DP.as (by conv => lhs; whnf)) ?_
        refine TO.nil ?_
        refine TQ.nn ?_
        refine T.ret ?_
        refine TQ.br ?_
        refine TQ.nr ?_
        refine TQ.ret (vs := [.pointer none, .int .i64 2]) (L' := [_]) rfl ⟨rfl, rfl, rfl⟩ ⟨rfl, rfl⟩ (by (refine Ent.imp ?_; repeat first | exact Imp.refl _ | exact Imp.nil _ | (apply Imp.pull; focus ((repeat first | exact Del.head _ _ | apply Del.tail); done)) | (apply Imp.row; focus ((repeat first | exact Del.head _ _ | apply Del.tail); done)) | apply Imp.drop))
      · exact absurd hp (by omega)

theorem newpool_big (p n b at_ : Nat) (v : Value) (s t : Int) (h1 : 1 ≤ s) (h2 : 1 ≤ t) (h3 : t ≤ 256) (hp : (n : Int) < s) :
    Sat Try.prog 19 [.pointer (some ⟨p, 0, none⟩), .int .u32 at_, .int .i64 s, .int .i64 t] [row 78 p [.slice (some ⟨b, 0, none⟩) n n, v]] (fun u L' => u = .tuple #[.pointer none, .int .i64 10] ∧ L' = [row 78 p [.slice (some ⟨b, 0, none⟩) n n, v]]) := by
  refine Sat.enter Try.func19 rfl Try.ntmps19 rfl (fun c R => ?_)
  try simp only [List.cons_append, List.nil_append]
  refine T.seq ?_
  refine T.reg ?_
  refine TO.p (DP.as (by conv => lhs; whnf)) ?_
  refine TO.p (DP.as (by conv => lhs; whnf)) ?_
  refine TO.nil ?_
  refine TQ.nn ?_
  refine T.seq ?_
  refine T.block ?_
  refine T.seq ?_
  refine T.reg ?_
  refine TO.p (DP.mv (by conv => lhs; whnf)) ?_
  refine TO.p (DP.peqS rfl rfl Try.underlying26) ?_
  refine TO.p (DP.as (by conv => lhs; whnf)) ?_
  refine TO.nil ?_
  refine TQ.nn ?_
  refine T.condF rfl ?_
  refine T.seq ?_
  refine T.seq ?_
  refine T.reg ?_
  refine TO.p (DP.mv (by conv => lhs; whnf)) ?_
  refine TO.p (DP.lssI rfl rfl) ?_
  refine TO.p (DP.as (by conv => lhs; whnf)) ?_
  refine TO.nil ?_
  refine TQ.nn ?_
  refine T.condD rfl (fun hc1 => ?_) (fun hc1 => ?_)
  · exact absurd hc1 (by omega)
  · refine T.seq ?_
    refine T.reg ?_
    refine TO.p (DP.mv (by conv => lhs; whnf)) ?_
    refine TO.p (DP.lssI rfl rfl) ?_
    refine TO.p (DP.as (by conv => lhs; whnf)) ?_
    refine TO.nil ?_
    refine TQ.nn ?_
    refine T.condD rfl (fun hc2 => ?_) (fun hc2 => ?_)
    · exact absurd hc2 (by omega)
    · refine T.reg ?_
      refine TO.p (DP.mv (by conv => lhs; whnf)) ?_
      refine TO.p (DP.gtrI rfl rfl) ?_
      refine TO.p (DP.as (by conv => lhs; whnf)) ?_
      refine TO.nil ?_
      refine TQ.nn ?_
      refine T.condD rfl (fun hc3 => ?_) (fun hc3 => ?_)
      · exact absurd hc3 (by omega)
      · refine T.seq ?_
        refine T.reg ?_
        refine TO.p (DP.mv (by conv => lhs; whnf)) ?_
        refine TO.p (DP.mv (by conv => lhs; whnf)) ?_
        refine TO.p (DP.nck rfl) ?_
        refine TO.p (DP.fa 0 rfl Try.underlying78 rfl rfl sz49) ?_
        refine TO.d (D.ldR rfl pl49 (by (repeat first | exact LMem.head _ _ | apply LMem.tail)) (by rfl)) ?_
        refine TO.p (DP.lenS rfl Try.underlying49) ?_
        refine TO.p (DP.gtrI rfl rfl) ?_
        refine TO.p (DP.as (by conv => lhs; whnf)) ?_
        refine TO.nil ?_
        refine TQ.nn ?_
        refine T.condD rfl (fun hc4 => ?_) (fun hc4 => ?_)
        · refine T.seq ?_
          refine T.reg ?_
          refine TO.p (DP.as (by conv => lhs; whnf)) ?_
          refine TO.p (DP.as (by conv => lhs; whnf)) ?_
          refine TO.nil ?_
          refine TQ.nn ?_
          refine T.ret ?_
          refine TQ.br ?_
          refine TQ.nr ?_
          refine TQ.ret (vs := [.pointer none, .int .i64 10]) (L' := [_]) rfl ⟨rfl, rfl, rfl⟩ ⟨rfl, rfl⟩ (by (refine Ent.imp ?_; repeat first | exact Imp.refl _ | exact Imp.nil _ | (apply Imp.pull; focus ((repeat first | exact Del.head _ _ | apply Del.tail); done)) | (apply Imp.row; focus ((repeat first | exact Del.head _ _ | apply Del.tail); done)) | apply Imp.drop))
        · exact absurd hp hc4

theorem newpool_out (p n b at_ s t : Nat) (v : Value) (hn : n ≤ 1048576) (ha : at_ < 4294967296) (h1 : 1 ≤ s) (h2 : 1 ≤ t) (h3 : t ≤ 256) (h5 : s ≤ 1048576) (h4 : s ≤ n) (h : n < at_ + s * t) :
    Sat Try.prog 19 [.pointer (some ⟨p, 0, none⟩), .int .u32 at_, .int .i64 s, .int .i64 t] [row 78 p [.slice (some ⟨b, 0, none⟩) n n, v]] (fun u L' => u = .tuple #[.pointer none, .int .i64 10] ∧ L' = [row 78 p [.slice (some ⟨b, 0, none⟩) n n, v]]) := by
  refine Sat.enter Try.func19 rfl Try.ntmps19 rfl (fun c R => ?_)
  try simp only [List.cons_append, List.nil_append]
  have hst := Nat.mul_le_mul h5 h3
  refine T.seq ?_
  refine T.reg ?_
  refine TO.p (DP.as (by conv => lhs; whnf)) ?_
  refine TO.p (DP.as (by conv => lhs; whnf)) ?_
  refine TO.nil ?_
  refine TQ.nn ?_
  refine T.seq ?_
  refine T.block ?_
  refine T.seq ?_
  refine T.reg ?_
  refine TO.p (DP.mv (by conv => lhs; whnf)) ?_
  refine TO.p (DP.peqS rfl rfl Try.underlying26) ?_
  refine TO.p (DP.as (by conv => lhs; whnf)) ?_
  refine TO.nil ?_
  refine TQ.nn ?_
  refine T.condF rfl ?_
  refine T.seq ?_
  refine T.seq ?_
  refine T.reg ?_
  refine TO.p (DP.mv (by conv => lhs; whnf)) ?_
  refine TO.p (DP.lss (b := 1) rfl rfl) ?_
  refine TO.p (DP.as (by conv => lhs; whnf)) ?_
  refine TO.nil ?_
  refine TQ.nn ?_
  refine T.condD rfl (fun hc1 => ?_) (fun hc1 => ?_)
  · exact absurd hc1 (by omega)
  · refine T.seq ?_
    refine T.reg ?_
    refine TO.p (DP.mv (by conv => lhs; whnf)) ?_
    refine TO.p (DP.lss (b := 1) rfl rfl) ?_
    refine TO.p (DP.as (by conv => lhs; whnf)) ?_
    refine TO.nil ?_
    refine TQ.nn ?_
    refine T.condD rfl (fun hc2 => ?_) (fun hc2 => ?_)
    · exact absurd hc2 (by omega)
    · refine T.reg ?_
      refine TO.p (DP.mv (by conv => lhs; whnf)) ?_
      refine TO.p (DP.gtr (b := 256) rfl rfl) ?_
      refine TO.p (DP.as (by conv => lhs; whnf)) ?_
      refine TO.nil ?_
      refine TQ.nn ?_
      refine T.condD rfl (fun hc3 => ?_) (fun hc3 => ?_)
      · exact absurd hc3 (by omega)
      · refine T.seq ?_
        refine T.reg ?_
        refine TO.p (DP.mv (by conv => lhs; whnf)) ?_
        refine TO.p (DP.mv (by conv => lhs; whnf)) ?_
        refine TO.p (DP.nck rfl) ?_
        refine TO.p (DP.fa 0 rfl Try.underlying78 rfl rfl sz49) ?_
        refine TO.d (D.ldR rfl pl49 (by (repeat first | exact LMem.head _ _ | apply LMem.tail)) (by rfl)) ?_
        refine TO.p (DP.lenS rfl Try.underlying49) ?_
        refine TO.p (DP.gtr rfl rfl) ?_
        refine TO.p (DP.as (by conv => lhs; whnf)) ?_
        refine TO.nil ?_
        refine TQ.nn ?_
        refine T.condD rfl (fun hc4 => ?_) (fun hc4 => ?_)
        · exact absurd hc4 (by omega)
        · refine T.skip ?_
          refine TQ.bn ?_
          refine TQ.nn ?_
          refine T.seq ?_
          refine T.seq ?_
          refine T.reg ?_
          refine TO.p (DP.mv (by conv => lhs; whnf)) ?_
          refine TO.p (DP.mv (by conv => lhs; whnf)) ?_
          refine TO.p (DP.mv (by conv => lhs; whnf)) ?_
          refine TO.p (DP.mv (by conv => lhs; whnf)) ?_
          refine TO.p (DP.mul rfl rfl (l := 9223372036854775808) rfl (by omega)) ?_
          refine TO.n (N.callF (part_out p n at_ (s * t) b v hn ha (by omega) h) Try.call39 ⟨rfl, rfl, rfl, trivial⟩ (by (repeat first | exact Pick.nil _ | (apply Pick.cons; focus ((repeat first | exact Del.head _ _ | apply Del.tail); done))))) ?_
          rintro u36 _ ⟨_, ⟨rfl, rfl⟩, rfl⟩
          try simp only [List.cons_append, List.nil_append]
          refine TO.p (DP.mv (by conv => lhs; whnf)) ?_
          refine TO.p (DP.ex rfl rfl) ?_
          refine TO.p (DP.ex rfl rfl) ?_
          refine TO.p (DP.as (by conv => lhs; whnf)) ?_
          refine TO.p (DP.as (by conv => lhs; whnf)) ?_
          refine TO.nil ?_
          refine TQ.nn ?_
          refine T.seq ?_
          refine T.reg ?_
          refine TO.p (DP.mv (by conv => lhs; whnf)) ?_
          refine TO.p (DP.neq (a := 10) (b := 0) rfl rfl) ?_
          refine TO.nil ?_
          refine TQ.nn ?_
          refine T.condD rfl (fun hc5 => ?_) (fun hc5 => ?_)
          · refine T.seq ?_
            refine T.reg ?_
            refine TO.p (DP.mv (by conv => lhs; whnf)) ?_
            refine TO.p (DP.as (by conv => lhs; whnf)) ?_
            refine TO.p (DP.as (by conv => lhs; whnf)) ?_
            refine TO.nil ?_
            refine TQ.nn ?_
            refine T.ret ?_
            refine TQ.nr ?_
            refine TQ.ret (vs := [.pointer none, .int .i64 10]) (L' := [_]) rfl ⟨rfl, rfl, rfl⟩ ⟨rfl, rfl⟩ (by (refine Ent.imp ?_; repeat first | exact Imp.refl _ | exact Imp.nil _ | (apply Imp.pull; focus ((repeat first | exact Del.head _ _ | apply Del.tail); done)) | (apply Imp.row; focus ((repeat first | exact Del.head _ _ | apply Del.tail); done)) | apply Imp.drop))
          · exact absurd (by decide) hc5

theorem newpool_ok (p n b at_ s t : Nat) (v : Value) (hn : n ≤ 1048576) (ha : at_ < 4294967296) (h1 : 1 ≤ s) (h2 : 1 ≤ t) (h3 : t ≤ 256) (h5 : s ≤ 1048576) (h4 : s ≤ n) (h : at_ + s * t ≤ n) :
    Sat Try.prog 19 [.pointer (some ⟨p, 0, none⟩), .int .u32 at_, .int .i64 s, .int .i64 t] [row 78 p [.slice (some ⟨b, 0, none⟩) n n, v]] (fun u L' => ∃ q wb, u = .tuple #[.pointer (some ⟨q, 0, none⟩), .int .i64 0] ∧ L' = [row 89 q [.pointer (some ⟨p, 0, none⟩), .int .u32 at_, .int .i64 s, .slice (some ⟨wb, 0, none⟩) t t], row 5 wb ((List.replicate t (0 : UInt8)).map byteV), row 78 p [.slice (some ⟨b, 0, none⟩) n n, v]]) := by
  refine Sat.enter Try.func19 rfl Try.ntmps19 rfl (fun c R => ?_)
  try simp only [List.cons_append, List.nil_append]
  have hst := Nat.mul_le_mul h5 h3
  refine T.seq ?_
  refine T.reg ?_
  refine TO.p (DP.as (by conv => lhs; whnf)) ?_
  refine TO.p (DP.as (by conv => lhs; whnf)) ?_
  refine TO.nil ?_
  refine TQ.nn ?_
  refine T.seq ?_
  refine T.block ?_
  refine T.seq ?_
  refine T.reg ?_
  refine TO.p (DP.mv (by conv => lhs; whnf)) ?_
  refine TO.p (DP.peqS rfl rfl Try.underlying26) ?_
  refine TO.p (DP.as (by conv => lhs; whnf)) ?_
  refine TO.nil ?_
  refine TQ.nn ?_
  refine T.condF rfl ?_
  refine T.seq ?_
  refine T.seq ?_
  refine T.reg ?_
  refine TO.p (DP.mv (by conv => lhs; whnf)) ?_
  refine TO.p (DP.lss (b := 1) rfl rfl) ?_
  refine TO.p (DP.as (by conv => lhs; whnf)) ?_
  refine TO.nil ?_
  refine TQ.nn ?_
  refine T.condD rfl (fun hc1 => ?_) (fun hc1 => ?_)
  · exact absurd hc1 (by omega)
  · refine T.seq ?_
    refine T.reg ?_
    refine TO.p (DP.mv (by conv => lhs; whnf)) ?_
    refine TO.p (DP.lss (b := 1) rfl rfl) ?_
    refine TO.p (DP.as (by conv => lhs; whnf)) ?_
    refine TO.nil ?_
    refine TQ.nn ?_
    refine T.condD rfl (fun hc2 => ?_) (fun hc2 => ?_)
    · exact absurd hc2 (by omega)
    · refine T.reg ?_
      refine TO.p (DP.mv (by conv => lhs; whnf)) ?_
      refine TO.p (DP.gtr (b := 256) rfl rfl) ?_
      refine TO.p (DP.as (by conv => lhs; whnf)) ?_
      refine TO.nil ?_
      refine TQ.nn ?_
      refine T.condD rfl (fun hc3 => ?_) (fun hc3 => ?_)
      · exact absurd hc3 (by omega)
      · refine T.seq ?_
        refine T.reg ?_
        refine TO.p (DP.mv (by conv => lhs; whnf)) ?_
        refine TO.p (DP.mv (by conv => lhs; whnf)) ?_
        refine TO.p (DP.nck rfl) ?_
        refine TO.p (DP.fa 0 rfl Try.underlying78 rfl rfl sz49) ?_
        refine TO.d (D.ldR rfl pl49 (by (repeat first | exact LMem.head _ _ | apply LMem.tail)) (by rfl)) ?_
        refine TO.p (DP.lenS rfl Try.underlying49) ?_
        refine TO.p (DP.gtr rfl rfl) ?_
        refine TO.p (DP.as (by conv => lhs; whnf)) ?_
        refine TO.nil ?_
        refine TQ.nn ?_
        refine T.condD rfl (fun hc4 => ?_) (fun hc4 => ?_)
        · exact absurd hc4 (by omega)
        · refine T.skip ?_
          refine TQ.bn ?_
          refine TQ.nn ?_
          refine T.seq ?_
          refine T.seq ?_
          refine T.reg ?_
          refine TO.p (DP.mv (by conv => lhs; whnf)) ?_
          refine TO.p (DP.mv (by conv => lhs; whnf)) ?_
          refine TO.p (DP.mv (by conv => lhs; whnf)) ?_
          refine TO.p (DP.mv (by conv => lhs; whnf)) ?_
          refine TO.p (DP.mul rfl rfl (l := 9223372036854775808) rfl (by omega)) ?_
          refine TO.n (N.callF (part_ok p n at_ (s * t) b v hn ha h) Try.call39 ⟨rfl, rfl, rfl, trivial⟩ (by (repeat first | exact Pick.nil _ | (apply Pick.cons; focus ((repeat first | exact Del.head _ _ | apply Del.tail); done))))) ?_
          rintro u36 _ ⟨_, ⟨rfl, rfl⟩, rfl⟩
          try simp only [List.cons_append, List.nil_append]
          refine TO.p (DP.mv (by conv => lhs; whnf)) ?_
          refine TO.p (DP.ex rfl rfl) ?_
          refine TO.p (DP.ex rfl rfl) ?_
          refine TO.p (DP.as (by conv => lhs; whnf)) ?_
          refine TO.p (DP.as (by conv => lhs; whnf)) ?_
          refine TO.nil ?_
          refine TQ.nn ?_
          refine T.seq ?_
          refine T.reg ?_
          refine TO.p (DP.mv (by conv => lhs; whnf)) ?_
          refine TO.p (DP.neq (a := 0) (b := 0) rfl rfl) ?_
          refine TO.nil ?_
          refine TQ.nn ?_
          refine T.condD rfl (fun hc5 => ?_) (fun hc5 => ?_)
          · exact absurd rfl hc5
          · refine T.skip ?_
            refine TQ.nn ?_
            refine T.seq ?_
            refine T.reg ?_
            refine TO.p (DP.mv (by conv => lhs; whnf)) ?_
            refine TO.p (DP.mv (by conv => lhs; whnf)) ?_
            refine TO.p (DP.mv (by conv => lhs; whnf)) ?_
            refine TO.p (DP.mv (by conv => lhs; whnf)) ?_
            refine TO.n (N.mk rfl rfl Try.underlying49 sz5 by5 zr5 rfl rfl (by omega)) ?_
            rintro _ _ ⟨b46, rfl, rfl⟩
            have hfl : (List.replicate t [Value.int .u8 0]).flatten = (List.replicate t (0 : UInt8)).map byteV := by simp [byteV]
            rw [hfl]
            refine TO.p (DP.bdL (vs := [(0, _), (1, _), (2, _), (3, _)]) (us := [_, _, _, _]) ⟨rfl, (by conv => lhs; whnf), rfl, (by conv => lhs; whnf), rfl, (by conv => lhs; whnf), rfl, (by conv => lhs; whnf), trivial⟩ pc89 zr89 rfl) ?_
            refine TO.n (N.bxA rfl) ?_
            rintro _ _ ⟨b48, rfl, rfl⟩
            refine TO.p (DP.as (by conv => lhs; whnf)) ?_
            refine TO.p (DP.as (by conv => lhs; whnf)) ?_
            refine TO.nil ?_
            refine TQ.nn ?_
            refine T.ret ?_
            refine TQ.ret (vs := [.pointer (some ⟨b48, 0, none⟩), .int .i64 0]) (L' := [_, _, row 78 p [.slice (some ⟨b, 0, none⟩) n n, v]]) rfl ⟨rfl, rfl, rfl⟩ ⟨b48, b46, rfl, rfl⟩ (by (refine Ent.imp ?_; repeat first | exact Imp.refl _ | exact Imp.nil _ | (apply Imp.pull; focus ((repeat first | exact Del.head _ _ | apply Del.tail); done)) | (apply Imp.row; focus ((repeat first | exact Del.head _ _ | apply Del.tail); done)) | apply Imp.drop))

theorem newpool_nil (at_ : Nat) (s t : Int) :
    Sat Try.prog 19 [.pointer none, .int .u32 at_, .int .i64 s, .int .i64 t] [] (fun u L' => u = .tuple #[.pointer none, .int .i64 1] ∧ L' = []) := by
  refine Sat.enter Try.func19 rfl Try.ntmps19 rfl (fun c R => ?_)
  try simp only [List.cons_append, List.nil_append]
  refine T.seq ?_
  refine T.reg ?_
  refine TO.p (DP.as (by conv => lhs; whnf)) ?_
  refine TO.p (DP.as (by conv => lhs; whnf)) ?_
  refine TO.nil ?_
  refine TQ.nn ?_
  refine T.seq ?_
  refine T.block ?_
  refine T.seq ?_
  refine T.reg ?_
  refine TO.p (DP.mv (by conv => lhs; whnf)) ?_
  refine TO.p (DP.peq0 rfl rfl Try.underlying26) ?_
  refine TO.p (DP.as (by conv => lhs; whnf)) ?_
  refine TO.nil ?_
  refine TQ.nn ?_
  refine T.condT rfl ?_
  refine T.seq ?_
  refine T.reg ?_
  refine TO.p (DP.as (by conv => lhs; whnf)) ?_
  refine TO.p (DP.as (by conv => lhs; whnf)) ?_
  refine TO.nil ?_
  refine TQ.nn ?_
  refine T.ret ?_
  refine TQ.br ?_
  refine TQ.nr ?_
  refine TQ.ret (vs := [.pointer none, .int .i64 1]) (L' := []) rfl ⟨rfl, rfl, rfl⟩ ⟨rfl, rfl⟩ (by (refine Ent.imp ?_; repeat first | exact Imp.refl _ | exact Imp.nil _ | (apply Imp.pull; focus ((repeat first | exact Del.head _ _ | apply Del.tail); done)) | (apply Imp.row; focus ((repeat first | exact Del.head _ _ | apply Del.tail); done)) | apply Imp.drop))
end Go.Proofs.Ytpidkdkbgjnhlaa
