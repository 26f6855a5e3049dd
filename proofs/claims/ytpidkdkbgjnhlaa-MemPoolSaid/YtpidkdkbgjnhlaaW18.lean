/- Lemmas for the proofs of this seat: no statement of the seat is claimed here. -/
import Derived.Test.YtpidkdkbgjnhlaaW17
set_option linter.all false
namespace Go.Proofs.Ytpidkdkbgjnhlaa
open Go Pw
set_option maxRecDepth 20000
set_option maxHeartbeats 4000000
theorem writeE_err {bs : List UInt8} {lt : List Bool} {a : Nat} {s : List UInt8} {x : Bool} {e : Nat} (h : (writeE bs lt a s x e).2 ≠ bs) : (writeE bs lt a s x e).1 = 0 := by
  unfold writeE at h ⊢
  split
  · rename_i h1
    rw [if_pos h1] at h
    split
    · rfl
    · rename_i h2; rw [if_neg h2] at h; exact absurd rfl h
  · rename_i h1; rw [if_neg h1] at h; exact absurd rfl h
theorem turnE_err {lt : List Bool} {a l : Nat} {x : Bool} {e : Nat} (h : (turnE lt a l x e).1 ≠ 0) : (turnE lt a l x e).2 = lt := by
  unfold turnE at h ⊢
  split
  · rename_i h1
    rw [if_pos h1] at h
    split
    · rename_i h2; rw [if_pos h2] at h; exact absurd rfl h
    · rfl
  · rfl
theorem writeE_diff {bs : List UInt8} {lt : List Bool} {a : Nat} {s : List UInt8} {x : Bool} {e k : Nat} (hl : lt.length = bs.length) (hk : k < bs.length) (h : (writeE bs lt a s x e).2[k]? ≠ bs[k]?) : (writeE bs lt a s x e).1 = 0 ∧ lt[k]? = some x := by
  refine ⟨writeE_err fun h2 => h (by rw [h2]), ?_⟩
  unfold writeE at h
  split at h
  · rename_i h1
    split at h
    · rename_i h2
      dsimp only at h
      rw [putB_get h1 k hk] at h
      split at h
      · rename_i h3; exact (allB_iff (by omega)).1 h2 k h3.1 h3.2
      · exact absurd rfl h
    · exact absurd rfl h
  · exact absurd rfl h
structure ApI (n e : Nat) (dr dv : Bool) (bs bs2 : List UInt8) (lt lt2 : List Bool) : Prop where
  len : bs2.length = n
  diff : ∀ k, k < n → bs2[k]? ≠ bs[k]? → e = 0 ∧ (lt[k]? = some true → dv = true) ∧ (lt[k]? = some false → dr = true)
  keep : e ≠ 0 ∨ dr = true ∨ dv = true → lt2 = lt
theorem ApI.none {n : Nat} {bs : List UInt8} {lt : List Bool} (h : bs.length = n) : ApI n 0 false false bs bs lt lt := ⟨h, fun k _ hd => absurd rfl hd, fun _ => rfl⟩
theorem ApI.write {n : Nat} {bs : List UInt8} {lt : List Bool} (a : Nat) (s : List UInt8) (h : bs.length = n) (hl : lt.length = n) : ApI n (writeE bs lt a s false 11).1 true false bs (writeE bs lt a s false 11).2 lt lt :=
  ⟨by rw [writeE_len]; exact h, fun k hk hd => by
    obtain ⟨h1, h2⟩ := writeE_diff (by omega) (by omega) hd
    exact ⟨h1, fun h3 => (by rw [h2] at h3; cases h3), fun _ => rfl⟩, fun _ => rfl⟩
theorem ApI.device {n : Nat} {bs : List UInt8} {lt : List Bool} (a : Nat) (s : List UInt8) (h : bs.length = n) (hl : lt.length = n) : ApI n (writeE bs lt a s true 12).1 false true bs (writeE bs lt a s true 12).2 lt lt :=
  ⟨by rw [writeE_len]; exact h, fun k hk hd => by
    obtain ⟨h1, h2⟩ := writeE_diff (by omega) (by omega) hd
    exact ⟨h1, fun _ => rfl, fun h3 => (by rw [h2] at h3; cases h3)⟩, fun _ => rfl⟩
theorem ApI.turn {n : Nat} {bs : List UInt8} {lt : List Bool} (a l : Nat) (x : Bool) (e : Nat) (h : bs.length = n) : ApI n (turnE lt a l x e).1 false false bs bs lt (turnE lt a l x e).2 :=
  ⟨h, fun k _ hd => absurd rfl hd, fun hh => by
    rcases hh with hh | hh | hh
    · exact turnE_err hh
    · cases hh
    · cases hh⟩
theorem apart_spec (h : Array Obj) (v : Value) (l : List Stp) (hI : Inp h 5 l.length v (stepsV l)) (hok : ∀ t ∈ l, t.ok) (sz n : Nat) (hs : sz < 65536) (hn : n = sz % 2000 + 1) :
    Sat Try.prog 3 [.int .u16 sz, v] [old h] (fun u L' => u = .bool true ∧ L' = [old h]) := by
  refine Sat.enter Try.func3 rfl Try.ntmps3 rfl (fun c R => ?_)
  try simp only [List.cons_append, List.nil_append]
  refine T.seq ?_
  refine T.reg ?_
  refine TO.p (DP.as (by conv => lhs; whnf)) ?_
  refine TO.nil ?_
  refine TQ.nn ?_
  refine T.seq ?_
  refine T.seq ?_
  refine T.reg ?_
  refine TO.p (DP.mv (by conv => lhs; whnf)) ?_
  refine TO.p (DP.cv rfl is22 Try.underlying3 (l := 9223372036854775808) rfl (by omega)) ?_
  refine TO.p (DP.rem (b := 2000) rfl rfl (by omega)) ?_
  refine TO.p (DP.mv (by conv => lhs; whnf)) ?_
  refine TO.n (N.callF (heavy_spec h v l ((((sz % 2000 : Nat) : Int))) hI hok) Try.call7 ⟨rfl, rfl, trivial⟩ (by (repeat first | exact Pick.nil _ | (apply Pick.cons; focus ((repeat first | exact Del.head _ _ | apply Del.tail); done))))) ?_
  rintro u23 _ ⟨_, ⟨hv, rfl, hhv, rfl⟩, rfl⟩
  try simp only [List.cons_append, List.nil_append]
  refine TO.nil ?_
  refine TQ.nn ?_
  refine T.condB rfl (fun hc0 => ?_) (fun hc0 => ?_)
  · refine T.seq ?_
    refine T.reg ?_
    refine TO.n (N.callF (works_spec) Try.call8 trivial (by (repeat first | exact Pick.nil _ | (apply Pick.cons; focus ((repeat first | exact Del.head _ _ | apply Del.tail); done))))) ?_
    rintro u24 _ ⟨_, ⟨rfl, rfl⟩, rfl⟩
    try simp only [List.cons_append, List.nil_append]
    refine TO.p (DP.as (by conv => lhs; whnf)) ?_
    refine TO.nil ?_
    refine TQ.nn ?_
    refine T.ret ?_
    refine TQ.nr ?_
    refine TQ.ret (vs := [.bool true]) (L' := [old h]) rfl ⟨rfl, rfl⟩ ⟨rfl, rfl⟩ (by (refine Ent.imp ?_; repeat first | exact Imp.refl _ | exact Imp.nil _ | (apply Imp.pull; focus ((repeat first | exact Del.head _ _ | apply Del.tail); done)) | (apply Imp.row; focus ((repeat first | exact Del.head _ _ | apply Del.tail); done)) | apply Imp.drop))
  · refine T.skip ?_
    refine TQ.nn ?_
    refine T.seq ?_
    refine T.reg ?_
    refine TO.p (DP.mv (by conv => lhs; whnf)) ?_
    refine TO.p (DP.cv rfl is22 Try.underlying3 (l := 9223372036854775808) rfl (by omega)) ?_
    refine TO.p (DP.rem (b := 2000) rfl rfl (by omega)) ?_
    refine TO.p (DP.to (v' := .int .i64 (n : Nat)) (DP.add (b := 1) rfl rfl (l := 9223372036854775808) rfl (by omega)) (by rw [hn])) ?_
    refine TO.p (DP.as (by conv => lhs; whnf)) ?_
    refine TO.nil ?_
    refine TQ.nn ?_
    refine T.seq ?_
    refine T.reg ?_
    refine TO.p (DP.mv (by conv => lhs; whnf)) ?_
    refine TO.n (N.callF (newA n (by omega) (by omega)) Try.call9 ⟨rfl, trivial⟩ (by (repeat first | exact Pick.nil _ | (apply Pick.cons; focus ((repeat first | exact Del.head _ _ | apply Del.tail); done))))) ?_
    rintro u31 _ ⟨_, ⟨p, rfl, rfl⟩, rfl⟩
    try simp only [List.cons_append, List.nil_append]
    refine TO.p (DP.mv (by conv => lhs; whnf)) ?_
    refine TO.p (DP.ex rfl rfl) ?_
    refine TO.p (DP.ex rfl rfl) ?_
    refine TO.p (DP.as (by conv => lhs; whnf)) ?_
    refine TO.p (DP.as (by conv => lhs; whnf)) ?_
    refine TO.nil ?_
    refine TQ.nn ?_
    refine T.seq ?_
    refine T.seq ?_
    refine T.reg ?_
    refine TO.p (DP.mv (by conv => lhs; whnf)) ?_
    refine TO.p (DP.to (v' := .bool false) (DP.neqI rfl rfl) (by simp)) ?_
    refine TO.p (DP.mv (by conv => lhs; whnf)) ?_
    refine TO.onP rfl (DP.mv (by conv => lhs; whnf)) ?_
    refine TO.onP rfl (DP.peqS rfl rfl Try.underlying26) ?_
    refine TO.p (DP.pkF rfl (by conv => lhs; whnf)) ?_
    refine TO.nil ?_
    refine TQ.nn ?_
    refine T.condF rfl ?_
    refine T.skip ?_
    refine TQ.nn ?_
    refine T.seq ?_
    refine T.seq ?_
    refine T.reg ?_
    refine TO.p (DP.as (by conv => lhs; whnf)) ?_
    refine TO.nil ?_
    refine TQ.nn ?_
    refine T.block ?_
    refine T.loop (S := Nat × List UInt8 × List Bool) (0, List.replicate n 0, List.replicate n false) (fun ⟨i, bs, lt⟩ => [(1, v), (5, .int .i64 (n : Nat)), (6, .pointer (some ⟨p, 0, none⟩)), (8, .int .i64 (i : Nat))]) (fun ⟨i, bs, lt⟩ => old h :: memA p bs lt :: R) (fun ⟨i, bs, lt⟩ => i ≤ l.length ∧ bs.length = n) (fun ⟨i, bs, lt⟩ => l.length - i) ?_ ?_ ?_ ?_
    · (repeat first | exact trivial | refine ⟨rfl, ?_⟩)
    · exact ⟨Nat.zero_le _, List.length_replicate⟩
    · (dsimp only; (refine Ent.imp ?_; repeat first | exact Imp.refl _ | exact Imp.nil _ | (apply Imp.pull; focus ((repeat first | exact Del.head _ _ | apply Del.tail); done)) | (apply Imp.row; focus ((repeat first | exact Del.head _ _ | apply Del.tail); done)) | apply Imp.drop))
    rintro ⟨i, bs, lt⟩ g hI1
    try dsimp only
    refine T.seq ?_
    refine T.seq ?_
    refine T.reg ?_
    refine TO.p (DP.mv (by conv => lhs; whnf)) ?_
    refine TO.p (DP.mv (by conv => lhs; whnf)) ?_
    refine TO.p (DP.lenI hI rfl Try.underlying23) ?_
    refine TO.p (DP.lss rfl rfl) ?_
    refine TO.nil ?_
    refine TQ.nn ?_
    refine T.condD rfl (fun hc2 => ?_) (fun hc2 => ?_)
    · obtain ⟨hi, hbl⟩ := hI1
      obtain ⟨t, ht⟩ := get_some (l := l) (i := i) (by omega)
      have htk := hok t (mem_of_get ht)
      have hat := htk.at_
      have hxx := htk.x
      have hss := htk.s
      have hun := u32N_lt t.n
      have hil := hI.2.1
      refine T.skip ?_
      refine TQ.nn ?_
      refine T.seq ?_
      refine T.block ?_
      refine T.seq ?_
      refine T.reg ?_
      refine TO.p (DP.mv (by conv => lhs; whnf)) ?_
      refine TO.p (DP.mv (by conv => lhs; whnf)) ?_
      refine TO.p (DP.iasH (n := l.length) (sz := 4) hI rfl rfl Try.underlying23 sz33 (by omega)) ?_
      refine TO.d (D.ldHA (us := [.int .i64 t.dd, .int .u32 t.at_, .int .i64 t.n, .int .u64 t.x, str t.s]) hI (by omega) (by conv => lhs; whnf) ag33 sz33 (by (repeat first | exact LMem.head _ _ | apply LMem.tail)) (flat_elem stepV_len ht) rfl) ?_
      refine TO.n (N.alA zr33) ?_
      rintro _ _ ⟨b9, rfl, rfl⟩
      refine TO.n0 (N.stA (vs := [.int .i64 t.dd, .int .u32 t.at_, .int .i64 t.n, .int .u64 t.x, str t.s]) rfl rfl sz33 (by (repeat first | exact Put.head _ _ _ | apply Put.tail)) (by simp) (by simp [Value.oneCell', str]) rfl) ?_
      rintro _ _ ⟨rfl, rfl⟩
      refine TO.nil ?_
      refine TQ.nn ?_
      refine T.seq ?_
      refine T.reg ?_
      refine TO.p (DP.mv (by conv => lhs; whnf)) ?_
      refine TO.p (DP.mv (by conv => lhs; whnf)) ?_
      refine TO.n (N.callF (readAll p n bs lt hbl (by omega)) Try.call10 ⟨rfl, rfl, rfl, trivial⟩ (by (repeat first | exact Pick.nil _ | (apply Pick.cons; focus ((repeat first | exact Del.head _ _ | apply Del.tail); done))))) ?_
      rintro u53 _ ⟨_, ⟨rfl, rfl⟩, rfl⟩
      try simp only [List.cons_append, List.nil_append]
      refine TO.p (DP.mv (by conv => lhs; whnf)) ?_
      refine TO.p (DP.ex rfl rfl) ?_
      refine TO.p (DP.ex rfl rfl) ?_
      refine TO.p (DP.as (by conv => lhs; whnf)) ?_
      refine TO.p (DP.as (by conv => lhs; whnf)) ?_
      refine TO.nil ?_
      refine TQ.nn ?_
      refine T.seq ?_
      refine T.reg ?_
      refine TO.p (DP.mv (by conv => lhs; whnf)) ?_
      refine TO.n (N.callF (lentA p bs lt) Try.call11 ⟨rfl, trivial⟩ (by (repeat first | exact Pick.nil _ | (apply Pick.cons; focus ((repeat first | exact Del.head _ _ | apply Del.tail); done))))) ?_
      rintro u57 _ ⟨_, ⟨ss, hsb, hcn, hfl, rfl⟩, rfl⟩
      try simp only [List.cons_append, List.nil_append]
      refine TO.p (DP.as (by conv => lhs; whnf)) ?_
      refine TO.nil ?_
      refine TQ.nn ?_
      refine T.seq ?_
      have hltl : lt.length = n := by rw [hfl, flags_len]; exact hbl
      obtain ⟨hsl, hsb2⟩ := canon_facts hcn hsb
      refine T.reg ?_
      refine TO.p (DP.as (by conv => lhs; whnf)) ?_
      refine TO.nil ?_
      refine TQ.nn ?_
      refine T.seq ?_
      refine T.reg ?_
      refine TO.p (DP.as (by conv => lhs; whnf)) ?_
      refine TO.p (DP.as (by conv => lhs; whnf)) ?_
      refine TO.nil ?_
      refine TQ.nn ?_
      refine T.cut (S := Nat × Bool × Bool × List UInt8 × List Bool) (fun ⟨e, dr, dv, bs2, lt2⟩ => [(1, v), (5, .int .i64 (n : Nat)), (6, .pointer (some ⟨p, 0, none⟩)), (8, .int .i64 (i : Nat)), (10, str bs), (12, u57), (13, .int .i64 (e : Nat)), (14, .bool dr), (15, .bool dv)]) (fun ⟨e, dr, dv, bs2, lt2⟩ => memA p bs2 lt2 :: sl 42 2 u57 ss.length (spans ss) :: old h :: R) (fun ⟨e, dr, dv, bs2, lt2⟩ => ApI n e dr dv bs bs2 lt lt2) ?_ ?_
      · refine T.seq ?_
        refine T.reg ?_
        refine TO.p (DP.fa 0 rfl Try.underlying33 rfl rfl sz3) ?_
        refine TO.d (D.ldR rfl pl3 (by (repeat first | exact LMem.head _ _ | apply LMem.tail)) (by rfl)) ?_
        refine TO.nil ?_
        refine TQ.nn ?_
        refine T.block ?_
        refine T.seq ?_
        refine T.reg ?_
        refine TO.p (DP.eqlI rfl rfl) ?_
        refine TO.p (DP.as (by conv => lhs; whnf)) ?_
        refine TO.nil ?_
        refine TQ.nn ?_
        refine T.condD rfl (fun hc3 => ?_) (fun hc3 => ?_)
        · refine T.seq ?_
          refine T.reg ?_
          refine TO.p (DP.mv (by conv => lhs; whnf)) ?_
          refine TO.p (DP.fa 1 rfl Try.underlying33 rfl rfl sz30) ?_
          refine TO.d (D.ldR rfl pl30 (by (repeat first | exact LMem.head _ _ | apply LMem.tail)) (by rfl)) ?_
          refine TO.p (DP.fa 4 rfl Try.underlying33 rfl rfl sz9) ?_
          refine TO.d (D.ldR rfl pl9 (by (repeat first | exact LMem.head _ _ | apply LMem.tail)) (by rfl)) ?_
          refine TO.n (N.callF (writeA p t.at_ t.s bs lt hat (by omega)) Try.call12 ⟨rfl, rfl, rfl, trivial⟩ (by (repeat first | exact Pick.nil _ | (apply Pick.cons; focus ((repeat first | exact Del.head _ _ | apply Del.tail); done))))) ?_
          rintro u67 _ ⟨_, ⟨rfl, rfl⟩, rfl⟩
          try simp only [List.cons_append, List.nil_append]
          refine TO.p (DP.as (by conv => lhs; whnf)) ?_
          refine TO.nil ?_
          refine TQ.nn ?_
          refine T.reg ?_
          refine TO.p (DP.as (by conv => lhs; whnf)) ?_
          refine TO.nil ?_
          refine TQ.bn ?_
          refine TQ.cn ⟨(writeE bs lt t.at_ t.s false 11).1, true, false, (writeE bs lt t.at_ t.s false 11).2, lt⟩ rfl ?_ ?_ ?_
          · (repeat first | exact trivial | refine ⟨rfl, ?_⟩)
          · exact ApI.write _ _ hbl hltl
          · (refine Ent.imp ?_; repeat first | exact Imp.refl _ | exact Imp.nil _ | (apply Imp.pull; focus ((repeat first | exact Del.head _ _ | apply Del.tail); done)) | (apply Imp.row; focus ((repeat first | exact Del.head _ _ | apply Del.tail); done)) | apply Imp.drop)
        · refine T.seq ?_
          refine T.reg ?_
          refine TO.p (DP.eqlI rfl rfl) ?_
          refine TO.p (DP.as (by conv => lhs; whnf)) ?_
          refine TO.nil ?_
          refine TQ.nn ?_
          refine T.condD rfl (fun hc4 => ?_) (fun hc4 => ?_)
          · refine T.seq ?_
            refine T.reg ?_
            refine TO.p (DP.mv (by conv => lhs; whnf)) ?_
            refine TO.p (DP.fa 1 rfl Try.underlying33 rfl rfl sz30) ?_
            refine TO.d (D.ldR rfl pl30 (by (repeat first | exact LMem.head _ _ | apply LMem.tail)) (by rfl)) ?_
            refine TO.p (DP.fa 2 rfl Try.underlying33 rfl rfl sz3) ?_
            refine TO.d (D.ldR rfl pl3 (by (repeat first | exact LMem.head _ _ | apply LMem.tail)) (by rfl)) ?_
            refine TO.p (DP.fa 3 rfl Try.underlying33 rfl rfl sz31) ?_
            refine TO.d (D.ldR rfl pl31 (by (repeat first | exact LMem.head _ _ | apply LMem.tail)) (by rfl)) ?_
            refine TO.n (N.callF (put_spec p t.at_ t.x t.n bs lt hat hxx) Try.call13 ⟨rfl, rfl, rfl, rfl, trivial⟩ (by (repeat first | exact Pick.nil _ | (apply Pick.cons; focus ((repeat first | exact Del.head _ _ | apply Del.tail); done))))) ?_
            rintro u77 _ ⟨_, ⟨rfl, rfl⟩, rfl⟩
            try simp only [List.cons_append, List.nil_append]
            refine TO.p (DP.as (by conv => lhs; whnf)) ?_
            refine TO.nil ?_
            refine TQ.nn ?_
            refine T.reg ?_
            refine TO.p (DP.as (by conv => lhs; whnf)) ?_
            refine TO.nil ?_
            refine TQ.bn ?_
            refine TQ.cn ⟨(writeE bs lt t.at_ (leB t.x (wideN t.n)) false 11).1, true, false, (writeE bs lt t.at_ (leB t.x (wideN t.n)) false 11).2, lt⟩ rfl ?_ ?_ ?_
            · (repeat first | exact trivial | refine ⟨rfl, ?_⟩)
            · exact ApI.write _ _ hbl hltl
            · (refine Ent.imp ?_; repeat first | exact Imp.refl _ | exact Imp.nil _ | (apply Imp.pull; focus ((repeat first | exact Del.head _ _ | apply Del.tail); done)) | (apply Imp.row; focus ((repeat first | exact Del.head _ _ | apply Del.tail); done)) | apply Imp.drop)
          · refine T.seq ?_
            refine T.reg ?_
            refine TO.p (DP.eqlI rfl rfl) ?_
            refine TO.p (DP.as (by conv => lhs; whnf)) ?_
            refine TO.nil ?_
            refine TQ.nn ?_
            refine T.condD rfl (fun hc5 => ?_) (fun hc5 => ?_)
            · refine T.reg ?_
              refine TO.p (DP.mv (by conv => lhs; whnf)) ?_
              refine TO.p (DP.fa 1 rfl Try.underlying33 rfl rfl sz30) ?_
              refine TO.d (D.ldR rfl pl30 (by (repeat first | exact LMem.head _ _ | apply LMem.tail)) (by rfl)) ?_
              refine TO.p (DP.fa 2 rfl Try.underlying33 rfl rfl sz3) ?_
              refine TO.d (D.ldR rfl pl3 (by (repeat first | exact LMem.head _ _ | apply LMem.tail)) (by rfl)) ?_
              refine TO.p (DP.to (v' := .int .u32 ((u32N t.n : Nat) : Int)) (DP.cvX rfl is3 Try.underlying30) (by rw [u32N_wrap])) ?_
              refine TO.p (DP.bdL (vs := [(0, _), (1, _)]) (us := [_, _]) ⟨rfl, (by conv => lhs; whnf), rfl, (by conv => lhs; whnf), trivial⟩ pc42 zr42 rfl) ?_
              refine TO.n (N.callF (lendA p t.at_ (u32N t.n) bs lt hat hun) Try.call14 ⟨rfl, rfl, trivial⟩ (by (repeat first | exact Pick.nil _ | (apply Pick.cons; focus ((repeat first | exact Del.head _ _ | apply Del.tail); done))))) ?_
              rintro u87 _ ⟨_, ⟨rfl, rfl⟩, rfl⟩
              try simp only [List.cons_append, List.nil_append]
              refine TO.p (DP.as (by conv => lhs; whnf)) ?_
              refine TO.nil ?_
              refine TQ.bn ?_
              refine TQ.cn ⟨(turnE lt t.at_ (u32N t.n) true 11).1, false, false, bs, (turnE lt t.at_ (u32N t.n) true 11).2⟩ rfl ?_ ?_ ?_
              · (repeat first | exact trivial | refine ⟨rfl, ?_⟩)
              · exact ApI.turn _ _ _ _ hbl
              · (refine Ent.imp ?_; repeat first | exact Imp.refl _ | exact Imp.nil _ | (apply Imp.pull; focus ((repeat first | exact Del.head _ _ | apply Del.tail); done)) | (apply Imp.row; focus ((repeat first | exact Del.head _ _ | apply Del.tail); done)) | apply Imp.drop)
            · refine T.seq ?_
              refine T.reg ?_
              refine TO.p (DP.eqlI rfl rfl) ?_
              refine TO.p (DP.as (by conv => lhs; whnf)) ?_
              refine TO.nil ?_
              refine TQ.nn ?_
              refine T.condD rfl (fun hc6 => ?_) (fun hc6 => ?_)
              · refine T.reg ?_
                refine TO.p (DP.mv (by conv => lhs; whnf)) ?_
                refine TO.p (DP.fa 1 rfl Try.underlying33 rfl rfl sz30) ?_
                refine TO.d (D.ldR rfl pl30 (by (repeat first | exact LMem.head _ _ | apply LMem.tail)) (by rfl)) ?_
                refine TO.p (DP.fa 2 rfl Try.underlying33 rfl rfl sz3) ?_
                refine TO.d (D.ldR rfl pl3 (by (repeat first | exact LMem.head _ _ | apply LMem.tail)) (by rfl)) ?_
                refine TO.p (DP.to (v' := .int .u32 ((u32N t.n : Nat) : Int)) (DP.cvX rfl is3 Try.underlying30) (by rw [u32N_wrap])) ?_
                refine TO.p (DP.bdL (vs := [(0, _), (1, _)]) (us := [_, _]) ⟨rfl, (by conv => lhs; whnf), rfl, (by conv => lhs; whnf), trivial⟩ pc42 zr42 rfl) ?_
                refine TO.n (N.callF (backA p t.at_ (u32N t.n) bs lt hat hun) Try.call15 ⟨rfl, rfl, trivial⟩ (by (repeat first | exact Pick.nil _ | (apply Pick.cons; focus ((repeat first | exact Del.head _ _ | apply Del.tail); done))))) ?_
                rintro u97 _ ⟨_, ⟨rfl, rfl⟩, rfl⟩
                try simp only [List.cons_append, List.nil_append]
                refine TO.p (DP.as (by conv => lhs; whnf)) ?_
                refine TO.nil ?_
                refine TQ.bn ?_
                refine TQ.cn ⟨(turnE lt t.at_ (u32N t.n) false 12).1, false, false, bs, (turnE lt t.at_ (u32N t.n) false 12).2⟩ rfl ?_ ?_ ?_
                · (repeat first | exact trivial | refine ⟨rfl, ?_⟩)
                · exact ApI.turn _ _ _ _ hbl
                · (refine Ent.imp ?_; repeat first | exact Imp.refl _ | exact Imp.nil _ | (apply Imp.pull; focus ((repeat first | exact Del.head _ _ | apply Del.tail); done)) | (apply Imp.row; focus ((repeat first | exact Del.head _ _ | apply Del.tail); done)) | apply Imp.drop)
              · refine T.seq ?_
                refine T.reg ?_
                refine TO.p (DP.eqlI rfl rfl) ?_
                refine TO.p (DP.as (by conv => lhs; whnf)) ?_
                refine TO.nil ?_
                refine TQ.nn ?_
                refine T.condD rfl (fun hc7 => ?_) (fun hc7 => ?_)
                · refine T.seq ?_
                  refine T.reg ?_
                  refine TO.p (DP.mv (by conv => lhs; whnf)) ?_
                  refine TO.p (DP.fa 1 rfl Try.underlying33 rfl rfl sz30) ?_
                  refine TO.d (D.ldR rfl pl30 (by (repeat first | exact LMem.head _ _ | apply LMem.tail)) (by rfl)) ?_
                  refine TO.p (DP.fa 4 rfl Try.underlying33 rfl rfl sz9) ?_
                  refine TO.d (D.ldR rfl pl9 (by (repeat first | exact LMem.head _ _ | apply LMem.tail)) (by rfl)) ?_
                  refine TO.n (N.callF (deviceA p t.at_ t.s bs lt hat (by omega)) Try.call16 ⟨rfl, rfl, rfl, trivial⟩ (by (repeat first | exact Pick.nil _ | (apply Pick.cons; focus ((repeat first | exact Del.head _ _ | apply Del.tail); done))))) ?_
                  rintro u105 _ ⟨_, ⟨rfl, rfl⟩, rfl⟩
                  try simp only [List.cons_append, List.nil_append]
                  refine TO.p (DP.as (by conv => lhs; whnf)) ?_
                  refine TO.nil ?_
                  refine TQ.nn ?_
                  refine T.reg ?_
                  refine TO.p (DP.as (by conv => lhs; whnf)) ?_
                  refine TO.nil ?_
                  refine TQ.bn ?_
                  refine TQ.cn ⟨(writeE bs lt t.at_ t.s true 12).1, false, true, (writeE bs lt t.at_ t.s true 12).2, lt⟩ rfl ?_ ?_ ?_
                  · (repeat first | exact trivial | refine ⟨rfl, ?_⟩)
                  · exact ApI.device _ _ hbl hltl
                  · (refine Ent.imp ?_; repeat first | exact Imp.refl _ | exact Imp.nil _ | (apply Imp.pull; focus ((repeat first | exact Del.head _ _ | apply Del.tail); done)) | (apply Imp.row; focus ((repeat first | exact Del.head _ _ | apply Del.tail); done)) | apply Imp.drop)
                · refine T.skip ?_
                  refine TQ.bn ?_
                  refine TQ.cn ⟨0, false, false, bs, lt⟩ rfl ?_ ?_ ?_
                  · (repeat first | exact trivial | refine ⟨rfl, ?_⟩)
                  · exact ApI.none hbl
                  · (refine Ent.imp ?_; repeat first | exact Imp.refl _ | exact Imp.nil _ | (apply Imp.pull; focus ((repeat first | exact Del.head _ _ | apply Del.tail); done)) | (apply Imp.row; focus ((repeat first | exact Del.head _ _ | apply Del.tail); done)) | apply Imp.drop)
      rintro ⟨e, dr, dv, bs2, lt2⟩ g hA
      try dsimp only
      refine T.seq ?_
      refine T.reg ?_
      refine TO.p (DP.mv (by conv => lhs; whnf)) ?_
      refine TO.p (DP.mv (by conv => lhs; whnf)) ?_
      refine TO.n (N.callF (readAll p n bs2 lt2 hA.len (by omega)) Try.call10 ⟨rfl, rfl, rfl, trivial⟩ (by (repeat first | exact Pick.nil _ | (apply Pick.cons; focus ((repeat first | exact Del.head _ _ | apply Del.tail); done))))) ?_
      rintro u109 _ ⟨_, ⟨rfl, rfl⟩, rfl⟩
      try simp only [List.cons_append, List.nil_append]
      refine TO.p (DP.mv (by conv => lhs; whnf)) ?_
      refine TO.p (DP.ex rfl rfl) ?_
      refine TO.p (DP.ex rfl rfl) ?_
      refine TO.p (DP.as (by conv => lhs; whnf)) ?_
      refine TO.p (DP.as (by conv => lhs; whnf)) ?_
      refine TO.nil ?_
      refine TQ.nn ?_
      refine T.seq ?_
      refine T.seq ?_
      refine T.reg ?_
      refine TO.p (DP.as (by conv => lhs; whnf)) ?_
      refine TO.nil ?_
      refine TQ.nn ?_
      refine T.block ?_
      refine T.loop (S := Nat) 0 (fun k => [(1, v), (5, .int .i64 (n : Nat)), (6, .pointer (some ⟨p, 0, none⟩)), (8, .int .i64 (i : Nat)), (10, str bs), (12, u57), (13, .int .i64 (e : Nat)), (14, .bool dr), (15, .bool dv), (16, str bs2), (18, .int .i64 (k : Nat))]) (fun k => memA p bs2 lt2 :: sl 42 2 u57 ss.length (spans ss) :: old h :: R) (fun k => k ≤ n) (fun k => n - k) ?_ ?_ ?_ ?_
      · (repeat first | exact trivial | refine ⟨rfl, ?_⟩)
      · (first | trivial | omega | simp)
      · exact Ent.refl _ _
      rintro k g hk1
      refine T.seq ?_
      refine T.seq ?_
      refine T.reg ?_
      refine TO.p (DP.mv (by conv => lhs; whnf)) ?_
      refine TO.p (DP.mv (by conv => lhs; whnf)) ?_
      refine TO.p (DP.lss rfl rfl) ?_
      refine TO.nil ?_
      refine TQ.nn ?_
      refine T.condD rfl (fun hc8 => ?_) (fun hc8 => ?_)
      · obtain ⟨x1, hx1⟩ := get_some (l := bs) (i := k) (by omega)
        obtain ⟨x2, hx2⟩ := get_some (l := bs2) (i := k) (by have := hA.len; omega)
        refine T.skip ?_
        refine TQ.nn ?_
        refine T.seq ?_
        refine T.block ?_
        refine T.seq ?_
        refine T.seq ?_
        refine T.drawL [] mixed (by repeat first | exact Calm.rt | apply Calm.t | apply Calm.b | apply Calm.l | apply Calm.ct) ?_
        refine TR.p 0 rfl (by kernel_rfl) (DP.mv (by conv => lhs; whnf)) ?_
        refine TR.p 1 rfl (by kernel_rfl) (DP.mv (by conv => lhs; whnf)) ?_
        refine TR.p 2 rfl (by kernel_rfl) (DP.ixT (b := x2) rfl rfl Try.underlying9 hx2) ?_
        refine TR.p 3 rfl (by kernel_rfl) (DP.mv (by conv => lhs; whnf)) ?_
        refine TR.p 4 rfl (by kernel_rfl) (DP.mv (by conv => lhs; whnf)) ?_
        refine TR.p 5 rfl (by kernel_rfl) (DP.ixT (b := x1) rfl rfl Try.underlying9 hx1) ?_
        refine TR.p 6 rfl (by kernel_rfl) (DP.eql rfl rfl) ?_
        refine TR.done (by kernel_rfl) ?_
        refine TQ.nn ?_
        refine T.condD rfl (fun hc9 => ?_) (fun hc9 => ?_)
        · refine T.exit ?_
          refine TQ.ne ?_
          refine TQ.be ?_
          refine TQ.nn ?_
          refine T.reg ?_
          refine TO.p (DP.mv (by conv => lhs; whnf)) ?_
          refine TO.p (DP.add (b := 1) rfl rfl (l := 9223372036854775808) rfl (by omega)) ?_
          refine TO.p (DP.as (by conv => lhs; whnf)) ?_
          refine TO.nil ?_
          refine TQ.round (k + 1) rfl ?_ ?_ ?_ ?_
          · (repeat first | exact trivial | refine ⟨rfl, ?_⟩)
          · omega
          · omega
          · (refine Ent.imp ?_; repeat first | exact Imp.refl _ | exact Imp.nil _ | (apply Imp.pull; focus ((repeat first | exact Del.head _ _ | apply Del.tail); done)) | (apply Imp.row; focus ((repeat first | exact Del.head _ _ | apply Del.tail); done)) | apply Imp.drop)
        · obtain ⟨he, hd1, hd2⟩ := hA.diff k (by omega) (fun h2 => hc9 (by rw [hx1, hx2] at h2; simp at h2; rw [h2]))
          subst he
          have hfg := flags_get (n := n) (ss := ss) (k := k) (by omega)
          rw [← hbl, ← hfl] at hfg
          refine T.skip ?_
          refine TQ.nn ?_
          refine T.seq ?_
          refine T.reg ?_
          refine TO.p (DP.mv (by conv => lhs; whnf)) ?_
          refine TO.p (DP.to (v' := .bool false) (DP.neq (a := 0) (b := 0) rfl rfl) (by simp)) ?_
          refine TO.p (DP.mv (by conv => lhs; whnf)) ?_
          refine TO.onP rfl (DP.mv (by conv => lhs; whnf)) ?_
          refine TO.onP rfl (DP.mv (by conv => lhs; whnf)) ?_
          refine TO.on rfl (N.callF (in_spec u57 ss k hsl hsb2) Try.call17 ⟨rfl, rfl, trivial⟩ (by (repeat first | exact Pick.nil _ | (apply Pick.cons; focus ((repeat first | exact Del.head _ _ | apply Del.tail); done))))) ?_
          rintro u129 _ ⟨_, ⟨rfl, rfl⟩, rfl⟩
          try simp only [List.cons_append, List.nil_append]
          refine TO.onB rfl (DP.mv (by conv => lhs; whnf)) (fun hg130 => ?_) (fun hg130 => ?_)
          · have hdv := hd1 (by rw [hfg]; simp [hg130])
            refine TO.onP rfl (DP.mv (by conv => lhs; whnf)) ?_
            refine TO.onP rfl (DP.to (v' := .bool false) (DP.not (b := dv) rfl) (by rw [hdv]; rfl)) ?_
            refine TO.onP rfl (DP.pkT rfl (by conv => lhs; whnf)) ?_
            refine TO.p (DP.pkF rfl (by conv => lhs; whnf)) ?_
            refine TO.p (DP.mv (by conv => lhs; whnf)) ?_
            refine TO.onP rfl (DP.mv (by conv => lhs; whnf)) ?_
            refine TO.onP rfl (DP.mv (by conv => lhs; whnf)) ?_
            refine TO.on rfl (N.callF (in_spec u57 ss k hsl hsb2) Try.call17 ⟨rfl, rfl, trivial⟩ (by (repeat first | exact Pick.nil _ | (apply Pick.cons; focus ((repeat first | exact Del.head _ _ | apply Del.tail); done))))) ?_
            rintro u138 _ ⟨_, ⟨rfl, rfl⟩, rfl⟩
            try simp only [List.cons_append, List.nil_append]
            refine TO.onP rfl (DP.to (v' := .bool false) (DP.not rfl) (by simp [hg130])) ?_
            refine TO.onP rfl (DP.mv (by conv => lhs; whnf)) ?_
            refine TO.off rfl rfl ?_
            refine TO.off rfl rfl ?_
            refine TO.onP rfl (DP.pkF rfl (by conv => lhs; whnf)) ?_
            refine TO.p (DP.pkF rfl (by conv => lhs; whnf)) ?_
            refine TO.nil ?_
            refine TQ.nn ?_
            refine T.condF rfl ?_
            refine T.skip ?_
            refine TQ.bn ?_
            refine TQ.nn ?_
            refine T.reg ?_
            refine TO.p (DP.mv (by conv => lhs; whnf)) ?_
            refine TO.p (DP.add (b := 1) rfl rfl (l := 9223372036854775808) rfl (by omega)) ?_
            refine TO.p (DP.as (by conv => lhs; whnf)) ?_
            refine TO.nil ?_
            refine TQ.round (k + 1) rfl ?_ ?_ ?_ ?_
            · (repeat first | exact trivial | refine ⟨rfl, ?_⟩)
            · omega
            · omega
            · (refine Ent.imp ?_; repeat first | exact Imp.refl _ | exact Imp.nil _ | (apply Imp.pull; focus ((repeat first | exact Del.head _ _ | apply Del.tail); done)) | (apply Imp.row; focus ((repeat first | exact Del.head _ _ | apply Del.tail); done)) | apply Imp.drop)
          · have hdr := hd2 (by rw [hfg]; simp [hg130])
            refine TO.off rfl rfl ?_
            refine TO.off rfl rfl ?_
            refine TO.onP rfl (DP.pkF rfl (by conv => lhs; whnf)) ?_
            refine TO.p (DP.pkF rfl (by conv => lhs; whnf)) ?_
            refine TO.p (DP.mv (by conv => lhs; whnf)) ?_
            refine TO.onP rfl (DP.mv (by conv => lhs; whnf)) ?_
            refine TO.onP rfl (DP.mv (by conv => lhs; whnf)) ?_
            refine TO.on rfl (N.callF (in_spec u57 ss k hsl hsb2) Try.call17 ⟨rfl, rfl, trivial⟩ (by (repeat first | exact Pick.nil _ | (apply Pick.cons; focus ((repeat first | exact Del.head _ _ | apply Del.tail); done))))) ?_
            rintro u138 _ ⟨_, ⟨rfl, rfl⟩, rfl⟩
            try simp only [List.cons_append, List.nil_append]
            refine TO.onP rfl (DP.to (v' := .bool true) (DP.not rfl) (by simp [hg130])) ?_
            refine TO.onP rfl (DP.mv (by conv => lhs; whnf)) ?_
            refine TO.onP rfl (DP.mv (by conv => lhs; whnf)) ?_
            refine TO.onP rfl (DP.to (v' := .bool false) (DP.not (b := dr) rfl) (by rw [hdr]; rfl)) ?_
            refine TO.onP rfl (DP.pkT rfl (by conv => lhs; whnf)) ?_
            refine TO.p (DP.pkF rfl (by conv => lhs; whnf)) ?_
            refine TO.nil ?_
            refine TQ.nn ?_
            refine T.condF rfl ?_
            refine T.skip ?_
            refine TQ.bn ?_
            refine TQ.nn ?_
            refine T.reg ?_
            refine TO.p (DP.mv (by conv => lhs; whnf)) ?_
            refine TO.p (DP.add (b := 1) rfl rfl (l := 9223372036854775808) rfl (by omega)) ?_
            refine TO.p (DP.as (by conv => lhs; whnf)) ?_
            refine TO.nil ?_
            refine TQ.round (k + 1) rfl ?_ ?_ ?_ ?_
            · (repeat first | exact trivial | refine ⟨rfl, ?_⟩)
            · omega
            · omega
            · (refine Ent.imp ?_; repeat first | exact Imp.refl _ | exact Imp.nil _ | (apply Imp.pull; focus ((repeat first | exact Del.head _ _ | apply Del.tail); done)) | (apply Imp.row; focus ((repeat first | exact Del.head _ _ | apply Del.tail); done)) | apply Imp.drop)
      · refine T.exit ?_
        refine TQ.ne ?_
        refine TQ.le ?_
        refine TQ.be ?_
        refine TQ.nn ?_
        refine T.seq ?_
        refine T.reg ?_
        refine TO.p (DP.mv (by conv => lhs; whnf)) ?_
        refine TO.p (DP.neq (b := 0) rfl rfl) ?_
        refine TO.pB (DP.mv (by conv => lhs; whnf)) (fun hg147 => ?_) (fun hg147 => ?_)
        · refine TO.off rfl rfl ?_
          refine TO.p (DP.pkT rfl (by conv => lhs; whnf)) ?_
          refine TO.p (DP.mv (by conv => lhs; whnf)) ?_
          refine TO.off rfl rfl ?_
          refine TO.p (DP.pkT rfl (by conv => lhs; whnf)) ?_
          refine TO.p (DP.mv (by conv => lhs; whnf)) ?_
          have hkp := hA.keep (.inl hg147)
          refine TO.onP rfl (DP.mv (by conv => lhs; whnf)) ?_
          refine TO.onP rfl (DP.mv (by conv => lhs; whnf)) ?_
          refine TO.on rfl (N.callF (lentA p bs2 lt2) Try.call11 ⟨rfl, trivial⟩ (by (repeat first | exact Pick.nil _ | (apply Pick.cons; focus ((repeat first | exact Del.head _ _ | apply Del.tail); done))))) ?_
          rintro u156 _ ⟨_, ⟨s2, hsb3, hcn2, hfl2, rfl⟩, rfl⟩
          try simp only [List.cons_append, List.nil_append]
          obtain rfl : s2 = ss := flags_uniq (n := bs.length) (by rw [← hfl, ← hkp, hfl2, hA.len, hbl]) (by rw [hA.len, ← hbl] at hcn2; exact hcn2) hcn
          refine TO.on rfl (N.callF (same_eq u57 u156 s2 hsl) Try.call18 ⟨rfl, rfl, trivial⟩ (by (repeat first | exact Pick.nil _ | (apply Pick.cons; focus ((repeat first | exact Del.head _ _ | apply Del.tail); done))))) ?_
          rintro u157 _ ⟨_, ⟨rfl, rfl⟩, rfl⟩
          try simp only [List.cons_append, List.nil_append]
          refine TO.onP rfl (DP.not rfl) ?_
          refine TO.p (DP.pkT rfl (by conv => lhs; whnf)) ?_
          refine TO.nil ?_
          refine TQ.nn ?_
          refine T.condF rfl ?_
          refine T.skip ?_
          refine TQ.bn ?_
          refine TQ.nn ?_
          refine T.reg ?_
          refine TO.p (DP.mv (by conv => lhs; whnf)) ?_
          refine TO.p (DP.add (b := 1) rfl rfl (l := 9223372036854775808) rfl (by omega)) ?_
          refine TO.p (DP.as (by conv => lhs; whnf)) ?_
          refine TO.nil ?_
          refine TQ.round (i + 1, bs2, lt2) rfl ?_ ?_ ?_ ?_
          · (repeat first | exact trivial | refine ⟨rfl, ?_⟩)
          · exact ⟨by dsimp only; omega, hA.len⟩
          · (dsimp only; omega)
          · (dsimp only; (refine Ent.imp ?_; repeat first | exact Imp.refl _ | exact Imp.nil _ | (apply Imp.pull; focus ((repeat first | exact Del.head _ _ | apply Del.tail); done)) | (apply Imp.row; focus ((repeat first | exact Del.head _ _ | apply Del.tail); done)) | apply Imp.drop))
        · refine TO.onP rfl (DP.mv (by conv => lhs; whnf)) ?_
          refine TO.p (DP.pkF rfl (by conv => lhs; whnf)) ?_
          refine TO.pb (DP.mv (by conv => lhs; whnf)) (fun hg150 => ?_) (fun hg150 => ?_)
          · refine TO.off rfl rfl ?_
            refine TO.p (DP.pkT rfl (by conv => lhs; whnf)) ?_
            refine TO.p (DP.mv (by conv => lhs; whnf)) ?_
            have hkp := hA.keep (.inr (.inl hg150))
            refine TO.onP rfl (DP.mv (by conv => lhs; whnf)) ?_
            refine TO.onP rfl (DP.mv (by conv => lhs; whnf)) ?_
            refine TO.on rfl (N.callF (lentA p bs2 lt2) Try.call11 ⟨rfl, trivial⟩ (by (repeat first | exact Pick.nil _ | (apply Pick.cons; focus ((repeat first | exact Del.head _ _ | apply Del.tail); done))))) ?_
            rintro u156 _ ⟨_, ⟨s2, hsb3, hcn2, hfl2, rfl⟩, rfl⟩
            try simp only [List.cons_append, List.nil_append]
            obtain rfl : s2 = ss := flags_uniq (n := bs.length) (by rw [← hfl, ← hkp, hfl2, hA.len, hbl]) (by rw [hA.len, ← hbl] at hcn2; exact hcn2) hcn
            refine TO.on rfl (N.callF (same_eq u57 u156 s2 hsl) Try.call18 ⟨rfl, rfl, trivial⟩ (by (repeat first | exact Pick.nil _ | (apply Pick.cons; focus ((repeat first | exact Del.head _ _ | apply Del.tail); done))))) ?_
            rintro u157 _ ⟨_, ⟨rfl, rfl⟩, rfl⟩
            try simp only [List.cons_append, List.nil_append]
            refine TO.onP rfl (DP.not rfl) ?_
            refine TO.p (DP.pkT rfl (by conv => lhs; whnf)) ?_
            refine TO.nil ?_
            refine TQ.nn ?_
            refine T.condF rfl ?_
            refine T.skip ?_
            refine TQ.bn ?_
            refine TQ.nn ?_
            refine T.reg ?_
            refine TO.p (DP.mv (by conv => lhs; whnf)) ?_
            refine TO.p (DP.add (b := 1) rfl rfl (l := 9223372036854775808) rfl (by omega)) ?_
            refine TO.p (DP.as (by conv => lhs; whnf)) ?_
            refine TO.nil ?_
            refine TQ.round (i + 1, bs2, lt2) rfl ?_ ?_ ?_ ?_
            · (repeat first | exact trivial | refine ⟨rfl, ?_⟩)
            · exact ⟨by dsimp only; omega, hA.len⟩
            · (dsimp only; omega)
            · (dsimp only; (refine Ent.imp ?_; repeat first | exact Imp.refl _ | exact Imp.nil _ | (apply Imp.pull; focus ((repeat first | exact Del.head _ _ | apply Del.tail); done)) | (apply Imp.row; focus ((repeat first | exact Del.head _ _ | apply Del.tail); done)) | apply Imp.drop))
          · refine TO.onP rfl (DP.mv (by conv => lhs; whnf)) ?_
            refine TO.p (DP.pkF rfl (by conv => lhs; whnf)) ?_
            refine TO.pb (DP.mv (by conv => lhs; whnf)) (fun hg153 => ?_) (fun hg153 => ?_)
            · have hkp := hA.keep (.inr (.inr hg153))
              refine TO.onP rfl (DP.mv (by conv => lhs; whnf)) ?_
              refine TO.onP rfl (DP.mv (by conv => lhs; whnf)) ?_
              refine TO.on rfl (N.callF (lentA p bs2 lt2) Try.call11 ⟨rfl, trivial⟩ (by (repeat first | exact Pick.nil _ | (apply Pick.cons; focus ((repeat first | exact Del.head _ _ | apply Del.tail); done))))) ?_
              rintro u156 _ ⟨_, ⟨s2, hsb3, hcn2, hfl2, rfl⟩, rfl⟩
              try simp only [List.cons_append, List.nil_append]
              obtain rfl : s2 = ss := flags_uniq (n := bs.length) (by rw [← hfl, ← hkp, hfl2, hA.len, hbl]) (by rw [hA.len, ← hbl] at hcn2; exact hcn2) hcn
              refine TO.on rfl (N.callF (same_eq u57 u156 s2 hsl) Try.call18 ⟨rfl, rfl, trivial⟩ (by (repeat first | exact Pick.nil _ | (apply Pick.cons; focus ((repeat first | exact Del.head _ _ | apply Del.tail); done))))) ?_
              rintro u157 _ ⟨_, ⟨rfl, rfl⟩, rfl⟩
              try simp only [List.cons_append, List.nil_append]
              refine TO.onP rfl (DP.not rfl) ?_
              refine TO.p (DP.pkT rfl (by conv => lhs; whnf)) ?_
              refine TO.nil ?_
              refine TQ.nn ?_
              refine T.condF rfl ?_
              refine T.skip ?_
              refine TQ.bn ?_
              refine TQ.nn ?_
              refine T.reg ?_
              refine TO.p (DP.mv (by conv => lhs; whnf)) ?_
              refine TO.p (DP.add (b := 1) rfl rfl (l := 9223372036854775808) rfl (by omega)) ?_
              refine TO.p (DP.as (by conv => lhs; whnf)) ?_
              refine TO.nil ?_
              refine TQ.round (i + 1, bs2, lt2) rfl ?_ ?_ ?_ ?_
              · (repeat first | exact trivial | refine ⟨rfl, ?_⟩)
              · exact ⟨by dsimp only; omega, hA.len⟩
              · (dsimp only; omega)
              · (dsimp only; (refine Ent.imp ?_; repeat first | exact Imp.refl _ | exact Imp.nil _ | (apply Imp.pull; focus ((repeat first | exact Del.head _ _ | apply Del.tail); done)) | (apply Imp.row; focus ((repeat first | exact Del.head _ _ | apply Del.tail); done)) | apply Imp.drop))
            · refine TO.off rfl rfl ?_
              refine TO.off rfl rfl ?_
              refine TO.off rfl rfl ?_
              refine TO.off rfl rfl ?_
              refine TO.off rfl rfl ?_
              refine TO.p (DP.pkF rfl (by conv => lhs; whnf)) ?_
              refine TO.nil ?_
              refine TQ.nn ?_
              refine T.condF rfl ?_
              refine T.skip ?_
              refine TQ.bn ?_
              refine TQ.nn ?_
              refine T.reg ?_
              refine TO.p (DP.mv (by conv => lhs; whnf)) ?_
              refine TO.p (DP.add (b := 1) rfl rfl (l := 9223372036854775808) rfl (by omega)) ?_
              refine TO.p (DP.as (by conv => lhs; whnf)) ?_
              refine TO.nil ?_
              refine TQ.round (i + 1, bs2, lt2) rfl ?_ ?_ ?_ ?_
              · (repeat first | exact trivial | refine ⟨rfl, ?_⟩)
              · exact ⟨by dsimp only; omega, hA.len⟩
              · (dsimp only; omega)
              · (dsimp only; (refine Ent.imp ?_; repeat first | exact Imp.refl _ | exact Imp.nil _ | (apply Imp.pull; focus ((repeat first | exact Del.head _ _ | apply Del.tail); done)) | (apply Imp.row; focus ((repeat first | exact Del.head _ _ | apply Del.tail); done)) | apply Imp.drop))
    · refine T.exit ?_
      refine TQ.ne ?_
      refine TQ.le ?_
      refine TQ.be ?_
      refine TQ.nn ?_
      refine T.seq ?_
      refine T.reg ?_
      refine TO.n (N.callF (works_spec) Try.call8 trivial (by (repeat first | exact Pick.nil _ | (apply Pick.cons; focus ((repeat first | exact Del.head _ _ | apply Del.tail); done))))) ?_
      rintro u160 _ ⟨_, ⟨rfl, rfl⟩, rfl⟩
      try simp only [List.cons_append, List.nil_append]
      refine TO.p (DP.as (by conv => lhs; whnf)) ?_
      refine TO.nil ?_
      refine TQ.nn ?_
      refine T.ret ?_
      refine TQ.ret (vs := [.bool true]) (L' := [old h]) rfl ⟨rfl, rfl⟩ ⟨rfl, rfl⟩ (by (refine Ent.imp ?_; repeat first | exact Imp.refl _ | exact Imp.nil _ | (apply Imp.pull; focus ((repeat first | exact Del.head _ _ | apply Del.tail); done)) | (apply Imp.row; focus ((repeat first | exact Del.head _ _ | apply Del.tail); done)) | apply Imp.drop))
end Go.Proofs.Ytpidkdkbgjnhlaa
