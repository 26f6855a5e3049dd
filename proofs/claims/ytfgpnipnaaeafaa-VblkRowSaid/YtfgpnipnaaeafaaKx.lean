/- Lemmas for the proofs of this seat: no statement of the seat is claimed here. -/
import Derived.Test.YtfgpnipnaaeafaaKw
import Derived.Test.YtfgpnipnaaeafaaKc2
set_option linter.all false

namespace Go.Proofs.Ytfgpnipnaaeafaa
open Go Pw
set_option maxRecDepth 20000
set_option maxHeartbeats 4000000
theorem poll_hd {bs : List UInt8} {lt : List Bool} {at_ : Nat} {X : XC} {tk : List Bool} {ls : Nat} {br is : Bool} {hd sz e : Nat} {X' : XC} {tk' : List Bool} {ls' : Nat} {br' : Bool} {lt' : List Bool} (h : PollP bs lt at_ X tk ls br hd sz is e X' tk' ls' br' lt') : hd < 65536 ∧ sz < 4294967296 ∧ e ≤ 20 := by
  cases h with
  | dead => exact ⟨by decide, by decide, by decide⟩
  | none => exact ⟨by decide, by decide, by decide⟩
  | breaks => exact ⟨by decide, by decide, by decide⟩
  | done c h1 h2 h3 => exact ⟨h3, numE_lt bs _ 4, by decide⟩
theorem poll_D {bs : List UInt8} {lt : List Bool} {at_ : Nat} {X : XC} {tk : List Bool} {ls : Nat} {br : Bool} {hd sz e : Nat} {X' : XC} {tk' : List Bool} {ls' : Nat} {br' : Bool} {lt' : List Bool} (h : PollP bs lt at_ X tk ls br hd sz true e X' tk' ls' br' lt') : Pw.delJ X hd = X' := by cases h; rfl
theorem poll_same {bs : List UInt8} {lt : List Bool} {at_ : Nat} {X : XC} {tk : List Bool} {ls : Nat} {br : Bool} {hd sz e : Nat} {X' : XC} {tk' : List Bool} {ls' : Nat} {br' : Bool} {lt' : List Bool} (h : PollP bs lt at_ X tk ls br hd sz false e X' tk' ls' br' lt') : X = X' ∧ tk = tk' ∧ ls = ls' ∧ lt = lt' := by cases h <;> exact ⟨rfl, rfl, rfl, rfl⟩

/-- The parts of a request. -/
def lay (a : Nat) : List Bf := [⟨a, 16, false⟩, ⟨a + 16, 1024, true⟩, ⟨a + 1040, 1, true⟩]
theorem atJ_map {υ ψ : Type} (f : υ → ψ) (n : Nat) : ∀ l : List (Nat × υ), atJ (l.map fun q => (q.1, f q.2)) n = (atJ l n).map f
  | [] => rfl
  | (k, x) :: l => by
    have ih := atJ_map f n l
    unfold atJ at *
    simp only [List.map_cons, List.find?_cons]
    by_cases h : k = n
    · simp [h]
    · simp only [h, decide_false]; exact ih
theorem idx_map {υ ψ : Type} (f : υ → ψ) (n : Nat) : ∀ l : List (Nat × υ), (l.map fun q => (q.1, f q.2)).findIdx? (fun q => decide (q.1 = n)) = l.findIdx? (fun q => decide (q.1 = n))
  | [] => rfl
  | (k, x) :: l => by
    simp only [List.map_cons, List.findIdx?_cons, idx_map f n l]
theorem erase_map {α β : Type} (f : α → β) : ∀ (l : List α) (i : Nat), (l.map f).eraseIdx i = (l.eraseIdx i).map f
  | [], _ => rfl
  | _ :: _, 0 => rfl
  | x :: l, i + 1 => by simp only [List.map_cons, List.eraseIdx_cons_succ, erase_map f l i]
theorem delJ_map {υ ψ : Type} (f : υ → ψ) (n : Nat) (l : List (Nat × υ)) : Pw.delJ (l.map fun q => (q.1, f q.2)) n = (Pw.delJ l n).map fun q => (q.1, f q.2) := by
  unfold Pw.delJ
  rw [idx_map]
  cases l.findIdx? (fun q => decide (q.1 = n)) with
  | none => rfl
  | some i => exact erase_map _ _ _
theorem delJ_mem {υ : Type} {l : List (Nat × υ)} {n : Nat} {y : Nat × υ} (h : y ∈ Pw.delJ l n) : y ∈ l := by
  unfold Pw.delJ at h
  split at h
  · exact List.mem_of_mem_eraseIdx h
  · exact h
/-- What is asked stands in the ring, in the same order. -/
structure Prd (N : Nat) (X : XC) (K : AC) : Prop where
  pr : (X.map fun y => (y.1, y.2.l)) = K.map fun k => (k.1, lay k.2.at_)
  at_ : ∀ k ∈ K, k.2.at_ + 1041 ≤ N
theorem Prd.get {N hd : Nat} {X : XC} {K : AC} {ch : Ch} (i : Prd N X K) (h : atJ X hd = some ch) : ∃ a, atJ K hd = some a ∧ ch.l = lay a.at_ ∧ a.at_ + 1041 ≤ N := by
  have h1 := atJ_map (fun c : Ch => c.l) hd X
  rw [i.pr, atJ_map (fun a : Ask => lay a.at_) hd K, h] at h1
  cases hK : atJ K hd with
  | none => rw [hK] at h1; cases h1
  | some a =>
    rw [hK] at h1
    refine ⟨a, rfl, (Option.some.inj h1).symm, ?_⟩
    unfold atJ at hK
    cases hf : K.find? (fun q => decide (q.1 = hd)) with
    | none => rw [hf] at hK; cases hK
    | some y =>
      rw [hf] at hK
      have := i.at_ y (List.mem_of_find?_eq_some hf)
      rw [← Option.some.inj hK]; exact this
theorem Prd.del {N hd : Nat} {X : XC} {K : AC} (i : Prd N X K) : Prd N (Pw.delJ X hd) (Pw.delJ K hd) :=
  ⟨by rw [← delJ_map (fun c : Ch => c.l), i.pr, delJ_map (fun a : Ask => lay a.at_)], fun k hk => i.at_ k (delJ_mem hk)⟩
structure AlS where
  (X : XC) (tk : List Bool) (ls : Nat) (br : Bool) (K : AC) (wh : List UInt8) (lt : List Bool) (ol : List (Ask × Option (List UInt8))) (oa : Option Addr) (ok : Nat)
/-- What holds in each round. -/
structure AlI (A N S nx : Nat) (s : AlS) : Prop where
  ok : RgOk A N s.X s.tk nx s.ls
  pr : Prd N s.X s.K
  wl : s.wh.length = S
/-- What is done is answered rightly, one behind the other. -/
inductive AllT (bs : List UInt8) (A P : Nat) (s0 : AlS) : AlS → Prop
  | refl : AllT bs A P s0 s0
  | step {s : AlS} {hd sz : Nat} {X' : XC} {tk' : List Bool} {ls' : Nat} {br' : Bool} {lt' : List Bool} {a : Ask} {dt : List UInt8} {e : Nat} {wh' : List UInt8} {oa : Option Addr} {ok : Nat} : AllT bs A P s0 s → PollP bs s.lt A s.X s.tk s.ls s.br hd sz true 0 X' tk' ls' br' lt' → atJ s.K hd = some a → ansE bs a.at_ sz = some dt → PutP P 1041 s.wh a.at_ e wh' → AllT bs A P s0 ⟨X', tk', ls', br', Pw.delJ s.K hd, wh', lt', s.ol ++ [(a, some dt)], oa, ok⟩
/-- .. to the end, or till something is wrong. -/
inductive AllE (bs : List UInt8) (A P : Nat) (s0 : AlS) : AlS → Bool → Prop
  | fin {s : AlS} {hd sz : Nat} {br' : Bool} : AllT bs A P s0 s → PollP bs s.lt A s.X s.tk s.ls s.br hd sz false 0 s.X s.tk s.ls br' s.lt → AllE bs A P s0 ⟨s.X, s.tk, s.ls, br', s.K, s.wh, s.lt, s.ol, s.oa, s.ok⟩ false
  | brk {s : AlS} {hd sz e : Nat} {is : Bool} {X' : XC} {tk' : List Bool} {ls' : Nat} {br' : Bool} {lt' : List Bool} : AllT bs A P s0 s → PollP bs s.lt A s.X s.tk s.ls s.br hd sz is e X' tk' ls' br' lt' → e ≠ 0 → AllE bs A P s0 ⟨X', tk', ls', br', s.K, s.wh, lt', s.ol, s.oa, s.ok⟩ true
  | bad {s : AlS} {hd sz : Nat} {X' : XC} {tk' : List Bool} {ls' : Nat} {br' : Bool} {lt' : List Bool} {a : Ask} {e : Nat} {wh' : List UInt8} {oa : Option Addr} {ok : Nat} : AllT bs A P s0 s → PollP bs s.lt A s.X s.tk s.ls s.br hd sz true 0 X' tk' ls' br' lt' → atJ s.K hd = some a → ansE bs a.at_ sz = none → PutP P 1041 s.wh a.at_ e wh' → AllE bs A P s0 ⟨X', tk', ls', br', Pw.delJ s.K hd, wh', lt', s.ol ++ [(a, none)], oa, ok⟩ true
theorem poll_at' {bs : List UInt8} {lt : List Bool} {A : Nat} {X : XC} {tk : List Bool} {ls : Nat} {br : Bool} {hd sz e : Nat} {X' : XC} {tk' : List Bool} {ls' : Nat} {br' : Bool} {lt' : List Bool} (h : PollP bs lt A X tk ls br hd sz true e X' tk' ls' br' lt') : e = 0 ∧ X' = Pw.delJ X hd ∧ ∃ ch, atJ X hd = some ch := by
  cases h with
  | done c h1 h2 h3 h4 h5 => exact ⟨rfl, rfl, c, h4⟩
theorem AlI.step {bs : List UInt8} {A N S nx : Nat} {s : AlS} (i : AlI A N S nx s) {hd sz e0 : Nat} {X' : XC} {tk' : List Bool} {ls' : Nat} {br' : Bool} {lt' : List Bool} {a : Ask} {e P : Nat} {wh' : List UInt8} {ol : List (Ask × Option (List UInt8))} {oa : Option Addr} {ok : Nat} (h : PollP bs s.lt A s.X s.tk s.ls s.br hd sz true e0 X' tk' ls' br' lt') (hp : PutP P 1041 s.wh a.at_ e wh') : AlI A N S nx ⟨X', tk', ls', br', Pw.delJ s.K hd, wh', lt', ol, oa, ok⟩ := by
  refine ⟨poll_ok h i.ok, ?_, hp.len.trans i.wl⟩
  rw [(poll_at' h).2.1]
  exact i.pr.del
theorem delJ_len {X : XC} {n : Nat} {c : Ch} (h : atJ X n = some c) : (Pw.delJ X n).length + 1 = X.length := by
  obtain ⟨A, B, e1, e2, _⟩ := atJ_split h
  rw [e2, e1]; simp; omega
abbrev obV (x : Ask × Option (List UInt8)) : List Value := blkV x.1.id x.1.block x.2
instance : FLen obV (3 + 1) := ⟨fun _ => rfl⟩
instance {a : Ask} {o : Option (List UInt8)} : InvL obV [.int .u32 (a.id : Nat), .int .u32 (a.block : Nat), str (o.getD []), .int .i64 (errO o : Nat)] (a, o) := ⟨rfl⟩
end Go.Proofs.Ytfgpnipnaaeafaa


namespace Go.Proofs.Ytfgpnipnaaeafaa
open Go Pw
set_option maxRecDepth 20000
set_option maxHeartbeats 4000000
set_option synthInstance.maxHeartbeats 400000
set_option synthInstance.maxSize 4000
set_option maxHeartbeats 8000000
instance {L R R1 R2 R3 : List Assn} {d p r q m P hd sz : Nat} {x y bl nx : Int} {fl : Bool} {bs wh : List UInt8} {lt : List Bool} {K : AC} [h1 : RowDel L d 79 [.pointer (some ⟨p, 0, none⟩), .pointer (some ⟨r, 0, none⟩), .pointer (some ⟨q, 0, none⟩), .int .u32 bl, .map (some m), .int .u32 nx, .bool fl] R1] [h2 : MemAt R1 p bs lt R2] [h3 : Fam (mapJ askV) R2 m (.u16, K) R3] [h4 : PoAt R3 q p P 1041 wh R] [hx : Nn x hd] [hy : Nn y sz] : FnR Try.prog 60 [.pointer (some ⟨d, 0, none⟩), .agg #[.int .u16 x, .int .u32 y]] L (fun kk => ∃ a, (atJ K hd = some a ∧ a.at_ + 1041 ≤ bs.length ∧ bs.length ≤ 1048576 ∧ wh.length ≤ 256 ∧ P ≤ 1048576 ∧ hd < 65536 ∧ sz < 4294967296) ∧ ∀ e wh', PutP P 1041 wh a.at_ e wh' → kk (.agg #[.int .u32 (a.id : Nat), .int .u32 (a.block : Nat), str ((ansE bs a.at_ sz).getD []), .int .i64 (errO (ansE bs a.at_ sz) : Nat)]) (row 79 d [.pointer (some ⟨p, 0, none⟩), .pointer (some ⟨r, 0, none⟩), .pointer (some ⟨q, 0, none⟩), .int .u32 bl, .map (some m), .int .u32 nx, .bool fl] :: memA p bs lt :: mapJ askV m (.u16, Pw.delJ K hd) :: poolV q p P 1041 wh' :: R)) :=
  ⟨fun kk h => by
    obtain ⟨a, ⟨g1, g2, g3, g4, g5, g6, g7⟩, h9⟩ := h
    exact ⟨_, R, _, by rw [hx.h, hy.h]; exact answer_spec d p r q m P hd sz bl nx fl bs wh lt K a g1 g2 g3 g4 g5 g6 g7, .cons h1.h (.cons h2.h (.cons h3.h (.cons h4.h (.nil _)))), fun v L' hv => by obtain ⟨e, wh', f1, f2, f3⟩ := hv; rw [f2, f3]; exact h9 e wh' f1⟩⟩
theorem _root_.Pw.TO.atPan {P : Program} {r : Rd} {c : Ctx} {L : List Assn} {ops : Array Oper} {Q : Exit → Env → Rd → World → Prop} {rest : List Oper} {E : Env} {x : Operand} {ty : TypeId} {pos : String} {af : Array Edge} (h : TO P r c L ops Q (⟨none, .panic x, ty, pos, af, none⟩ :: rest) E) : TO P r c L ops Q (⟨none, .panic x, ty, pos, af, none⟩ :: rest) E := h
theorem _root_.Pw.TO.atMki {P : Program} {r : Rd} {c : Ctx} {L : List Assn} {ops : Array Oper} {Q : Exit → Env → Rd → World → Prop} {rest : List Oper} {E : Env} {x : Operand} {d : Nat} {t ty : TypeId} {pos : String} {af : Array Edge} (h : TO P r c L ops Q (⟨some d, .makeInterface t x, ty, pos, af, none⟩ :: rest) E) : TO P r c L ops Q (⟨some d, .makeInterface t x, ty, pos, af, none⟩ :: rest) E := h
abbrev panF : List PanicEntry := [{ v := .iface 99 (.agg #[]), recovered := false }]
theorem all_spec (d p r q m lc A P N S nx : Nat) (bl dn : Int) (fl : Bool) (bs : List UInt8) (s0 : AlS) (i0 : AlI A N S nx s0) (hb : bs.length = N) (hS : S ≤ 256) (hP : P ≤ 1048576) (hol : s0.ol.length + s0.X.length ≤ 1000000) :
    SatE Try.prog 40 [.pointer (some ⟨d, 0, none⟩), .pointer (some ⟨lc, 0, none⟩)] [row 79 d [.pointer (some ⟨p, 0, none⟩), .pointer (some ⟨r, 0, none⟩), .pointer (some ⟨q, 0, none⟩), .int .u32 bl, .map (some m), .int .u32 dn, .bool fl], rgA r p A s0.X s0.tk nx s0.ls s0.br, memA p bs s0.lt, mapJ askV m (.u16, s0.K), poolV q p P 1041 s0.wh, row 52 lc [.slice s0.oa s0.ol.length s0.ok], Pw.sl 56 (3 + 1) (.slice s0.oa s0.ol.length s0.ok) s0.ol.length (s0.ol.flatMap obV)] (fun v L' => v = .tuple #[] ∧ ∃ s, AllE bs A P s0 s false ∧ L' = [row 79 d [.pointer (some ⟨p, 0, none⟩), .pointer (some ⟨r, 0, none⟩), .pointer (some ⟨q, 0, none⟩), .int .u32 bl, .map (some m), .int .u32 dn, .bool fl], rgA r p A s.X s.tk nx s.ls s.br, memA p bs s.lt, mapJ askV m (.u16, s.K), poolV q p P 1041 s.wh, row 52 lc [.slice s.oa s.ol.length s.ok], Pw.sl 56 (3 + 1) (.slice s.oa s.ol.length s.ok) s.ol.length (s.ol.flatMap obV)]) (fun ch L' => ch = panF ∧ ∃ s, AllE bs A P s0 s true ∧ L' = [row 79 d [.pointer (some ⟨p, 0, none⟩), .pointer (some ⟨r, 0, none⟩), .pointer (some ⟨q, 0, none⟩), .int .u32 bl, .map (some m), .int .u32 dn, .bool fl], rgA r p A s.X s.tk nx s.ls s.br, memA p bs s.lt, mapJ askV m (.u16, s.K), poolV q p P 1041 s.wh, row 52 lc [.slice s.oa s.ol.length s.ok], Pw.sl 56 (3 + 1) (.slice s.oa s.ol.length s.ok) s.ol.length (s.ol.flatMap obV)]) := by
  intro c
  have hg1 : True := trivial
  have hg4 : True := trivial
  have hg5 : True := trivial
  have hg6 : True := trivial
  all_goals
    refine SatEC.enter Try.func40 rfl Try.ntmps40 rfl (fun R => ?_)
    try simp only [List.cons_append, List.nil_append]
    repeat' (first
      | (exact (rfl : (56 : Nat) = 56))
      | (refine T.atB 0 ?_; refine T.lpa 0 [(0, _), (1, _)] s0 (fun _ => []) (fun s => [row 79 d [.pointer (some ⟨p, 0, none⟩), .pointer (some ⟨r, 0, none⟩), .pointer (some ⟨q, 0, none⟩), .int .u32 bl, .map (some m), .int .u32 dn, .bool fl], rgA r p A s.X s.tk nx s.ls s.br, memA p bs s.lt, mapJ askV m (.u16, s.K), poolV q p P 1041 s.wh, row 52 lc [.slice s.oa s.ol.length s.ok], Pw.sl 56 (3 + 1) (.slice s.oa s.ol.length s.ok) s.ol.length (s.ol.flatMap obV)]) (fun s => AlI A N S nx s ∧ AllT bs A P s0 s ∧ s.ol.length + s.X.length ≤ 1000000) (fun s => s.X.length) ⟨i0, .refl, hol⟩ ?_; rintro ⟨X, tk, ls, br, K, wh, lt, ol, oa, ok⟩ g ⟨hI, hT, hol9⟩; have hIok := hI.ok; have hwl9 := hI.wl; dsimp only at hIok hwl9 hol9; dsimp only; simp only [List.cons_append, List.nil_append, appR])
      | (refine T.atR 1 ?_; clear hg1; rename_i hd9 sz9 is9 e9 X9 tk9 ls9 br9 lt9 hp9; obtain ⟨b4, hb4⟩ : ∃ x, x = b := ⟨_, rfl⟩; subst hb4; obtain ⟨hh1, hh2, hh3⟩ := poll_hd hp9)
      | (refine T.atR 4 ?_; clear hg4; have hz9 : e9 = 0 := (by omega); subst hz9; have hi9 : is9 = true := (by have h := ‹(!is9) = false›; revert h; cases is9 <;> decide); subst hi9; obtain ⟨_, hX9, ch9, hch9⟩ := poll_at' hp9; obtain ⟨a9, hK9, hl9, ha9⟩ := hI.pr.get hch9; have hN9 := hIok.N; dsimp only at hK9)
      | (refine T.atR 5 ?_; clear hg5; rename_i e8 wh8 hput; obtain ⟨b7, hb7⟩ : ∃ x, x = b := ⟨_, rfl⟩; subst hb7)
      | (refine T.atR 6 ?_; clear hg6; rename_i oa8; obtain ⟨ok8, hok8⟩ : ∃ x, x = b := ⟨_, rfl⟩; subst hok8; rw [show ol.length + 1 = (ol ++ [(a9, ansE bs a9.at_ sz9)]).length from by rw [List.length_append]; rfl]; cases hans : ansE bs a9.at_ sz9 <;> simp only [errO])
      | (refine TO.atMki ?_; refine TO.mki rfl ⟨Try.underlying99⟩ ?_)
      | (refine TO.atPan ?_; refine TO.pan rfl ?_)
      | (refine ⟨a9, ⟨hK9, by rw [hb]; exact ha9, by rw [hb]; exact hN9, by rw [hwl9]; exact hS, hP, hh1, hh2⟩, ?_⟩)
      | (refine finAt ?_; have hz9 : e9 = 0 := (by omega); subst hz9; have hi9 : is9 = false := (by have h := ‹(!is9) = true›; revert h; cases is9 <;> decide); subst hi9; obtain ⟨z1, z2, z3, z4⟩ := poll_same hp9; subst z1; subst z2; subst z3; subst z4; exact Fini.of ⟨rfl, _, .fin hT hp9, rfl⟩ (by simp only [List.cons_append, List.nil_append]; repeat first | (apply Imp.pull; focus ((repeat first | with_reducible exact Del.head _ _ | with_reducible apply Del.tail); done)) | with_reducible exact Imp.refl _ | apply Imp.drop))
      | (refine TQ.atPO ?_; refine TQ.panO (L' := _) ⟨rfl, (⟨X9, tk9, ls9, br9, K, wh, lt9, ol, oa, ok⟩ : AlS), .brk hT hp9 (by omega), rfl⟩ (Ent.imp (by simp only [List.cons_append, List.nil_append]; repeat first | (apply Imp.pull; focus ((repeat first | with_reducible exact Del.head _ _ | with_reducible apply Del.tail); done)) | with_reducible exact Imp.refl _ | apply Imp.drop)))
      | (refine TQ.atPO ?_; refine TQ.panO (L' := _) ⟨rfl, (⟨X9, tk9, ls9, br9, (Pw.delJ K hd9), wh8, lt9, (ol ++ [(a9, none)]), oa8, ok8⟩ : AlS), .bad hT hp9 hK9 hans hput, rfl⟩ (Ent.imp (by simp only [List.cons_append, List.nil_append]; repeat first | (apply Imp.pull; focus ((repeat first | with_reducible exact Del.head _ _ | with_reducible apply Del.tail); done)) | with_reducible exact Imp.refl _ | apply Imp.drop)))
      | (refine TQ.atL ?_; rename_i dt9; refine TQ.rd (⟨X9, tk9, ls9, br9, (Pw.delJ K hd9), wh8, lt9, (ol ++ [(a9, some dt9)]), oa8, ok8⟩ : AlS) rfl (by repeat first | exact trivial | refine ⟨rfl, ?_⟩) ⟨hI.step hp9 hput, .step hT hp9 hK9 hans hput, (by dsimp only; rw [hX9, List.length_append]; have := delJ_len hch9; simp only [List.length_cons, List.length_nil]; omega)⟩ (by dsimp only; rw [hX9]; have := delJ_len hch9; omega) (Ent.imp (by simp only [List.cons_append, List.nil_append]; repeat first | (apply Imp.pull; focus ((repeat first | with_reducible exact Del.head _ _ | with_reducible apply Del.tail); done)) | with_reducible exact Imp.refl _ | apply Imp.drop)))
      | (rw [hb]; exact hIok)
      | refine T.pk 5 [5, 6, 8] (.p 0 (.p 1 (.p 2 (.g 4 (.b2 3 (.n 5 (.n 6 (.p 7 (.n 8 .fin)))) 5 (.d 3 (.n 6 (.p 7 (.n 8 .fin))))))))) ?_
      | refine And.intro (fun hc => ?_) (fun hc => ?_)
      | refine And.intro ?_ ?_
      | intro b
      | ((first | refine atDS ?_ | refine atDSK ?_ | refine atDN ?_); refine stk ?_)
      | refine stp ?_
      | refine TQ.finC ?_
      | refine TQ.finC2 ?_
      | refine TQ.finC3 ?_
      | refine ⟨fun hc => ?_, fun hc => ?_⟩
      | refine Ei.f ?_
      | refine ⟨?_, ?_⟩
      | intro b
      | exact absurd rfl hc
      | exact absurd hc (by decide)
      | omega
      | (dsimp only; omega)
      | fail)

end Go.Proofs.Ytfgpnipnaaeafaa


namespace Go.Proofs.Ytfgpnipnaaeafaa
open Go Pw
set_option maxRecDepth 20000
set_option maxHeartbeats 4000000
set_option synthInstance.maxHeartbeats 400000
set_option synthInstance.maxSize 4000
set_option maxHeartbeats 8000000
instance {L R R1 R2 R3 R4 R5 R6 : List Assn} {d p r q m lc A P nx n ls ok : Nat} {bl dn : Int} {fl br : Bool} {bs wh : List UInt8} {lt tk : List Bool} {X : XC} {K : AC} {oa : Option Addr} {ol : List (Ask × Option (List UInt8))} [h1 : RowDel L d 79 [.pointer (some ⟨p, 0, none⟩), .pointer (some ⟨r, 0, none⟩), .pointer (some ⟨q, 0, none⟩), .int .u32 bl, .map (some m), .int .u32 dn, .bool fl] R1] [h2 : RgAt R1 r p A X tk nx ls br R2] [h3 : MemAt R2 p bs lt R3] [h4 : Fam (mapJ askV) R3 m (.u16, K) R4] [h5 : PoAt R4 q p P 1041 wh R5] [h6 : RowDel R5 lc 52 [.slice oa n ok] R6] [h7 : SlAt R6 (.slice oa n ok) 56 (3 + 1) n (ol.flatMap obV) R] : FnE Try.prog 40 [.pointer (some ⟨d, 0, none⟩), .pointer (some ⟨lc, 0, none⟩)] L (fun k j => ∃ N S, (n = ol.length ∧ AlI A N S nx (⟨X, tk, ls, br, K, wh, lt, ol, oa, ok⟩ : AlS) ∧ bs.length = N ∧ S ≤ 256 ∧ P ≤ 1048576 ∧ ol.length + X.length ≤ 1000000) ∧ (∀ s, AllE bs A P (⟨X, tk, ls, br, K, wh, lt, ol, oa, ok⟩ : AlS) s false → k (.tuple #[]) ([row 79 d [.pointer (some ⟨p, 0, none⟩), .pointer (some ⟨r, 0, none⟩), .pointer (some ⟨q, 0, none⟩), .int .u32 bl, .map (some m), .int .u32 dn, .bool fl], rgA r p A s.X s.tk nx s.ls s.br, memA p bs s.lt, mapJ askV m (.u16, s.K), poolV q p P 1041 s.wh, row 52 lc [.slice s.oa s.ol.length s.ok], Pw.sl 56 (3 + 1) (.slice s.oa s.ol.length s.ok) s.ol.length (s.ol.flatMap obV)] ++ R)) ∧ ∀ s, AllE bs A P (⟨X, tk, ls, br, K, wh, lt, ol, oa, ok⟩ : AlS) s true → j panF ([row 79 d [.pointer (some ⟨p, 0, none⟩), .pointer (some ⟨r, 0, none⟩), .pointer (some ⟨q, 0, none⟩), .int .u32 bl, .map (some m), .int .u32 dn, .bool fl], rgA r p A s.X s.tk nx s.ls s.br, memA p bs s.lt, mapJ askV m (.u16, s.K), poolV q p P 1041 s.wh, row 52 lc [.slice s.oa s.ol.length s.ok], Pw.sl 56 (3 + 1) (.slice s.oa s.ol.length s.ok) s.ol.length (s.ol.flatMap obV)] ++ R)) :=
  ⟨fun k j h => by
    obtain ⟨N, S, ⟨g0, g1, g2, g3, g4, g5⟩, h8, h9⟩ := h
    subst g0
    exact ⟨_, R, _, _, all_spec d p r q m lc A P N S nx bl dn fl bs (⟨X, tk, ls, br, K, wh, lt, ol, oa, ok⟩ : AlS) g1 g2 g3 g4 g5, .cons h1.h (.cons h2.h (.cons h3.h (.cons h4.h (.cons h5.h (.cons h6.h (.cons h7.h (.nil _))))))), fun v L' hv => by obtain ⟨f1, s, f2, f3⟩ := hv; rw [f1, f3]; exact h8 s f2, fun ch L' hv => by obtain ⟨f1, s, f2, f3⟩ := hv; rw [f1, f3]; exact h9 s f2⟩⟩
theorem imp_o0 {L : List Assn} : Imp L (Pw.sl 56 (3 + 1) (.slice none 0 0) 0 (([] : List (Ask × Option (List UInt8))).flatMap obV) :: L) := Imp.slN (Imp.refl L)
theorem _root_.Pw.TO.atDfr {P : Program} {r : Rd} {c : Ctx} {L : List Assn} {ops : Array Oper} {Q : Exit → Env → Rd → World → Prop} {rest : List Oper} {E : Env} {x : Call} {ty : TypeId} {pos : String} {af : Array Edge} (h : TO P r c L ops Q (⟨none, .defer x, ty, pos, af, none⟩ :: rest) E) : TO P r c L ops Q (⟨none, .defer x, ty, pos, af, none⟩ :: rest) E := h
theorem _root_.Pw.TQ.atD0 {P : Program} {fn : Func} {c : Ctx} {L R : List Assn} {B : Value → List Assn → Prop} {E : Env} {e : Exit} (h : TQ R0 c L (retD P fn c R B) e E) : TQ R0 c L (retD P fn c R B) e E := h
theorem rec_ret {c : Ctx} (b1 b2 b3 : Nat) : SatD Try.prog c 38 [.pointer (some ⟨b2, 0, none⟩), .pointer (some ⟨b1, 0, none⟩), .pointer (some ⟨b3, 0, none⟩)] .returning [] (fun u' L' => u' = .returning ∧ L' = []) := by
  refine SatD.enterR Try.func38 rfl Try.ntmps38 rfl (by decide) (fun R => ?_)
  simp only [recM]
  try simp only [List.cons_append, List.nil_append]
  repeat' (first
    | (refine TO.nif rfl ⟨Try.underlying20⟩ ?_)
    | (refine TQ.atD0 ?_; refine TQ.toD ?_)
    | (refine finAt ?_; refine Fini.of ⟨(by trivial), rfl⟩ ?_; exact Imp.refl _)
    | refine T.pl 5 [2, 3, 4, 5] (.d 1 (.b2 0 (.n 2 (.n 3 (.n 4 (.n 5 .fin)))) 2 (.d 0 (.n 3 (.n 4 (.n 5 .fin)))))) ?_
    | refine And.intro (fun hc => ?_) (fun hc => ?_)
    | refine And.intro ?_ ?_
    | intro b
    | refine stp ?_
    | refine TQ.finC ?_
    | refine TQ.finC2 ?_
    | refine TQ.finC3 ?_
    | refine ⟨fun hc => ?_, fun hc => ?_⟩
    | refine Ei.f ?_
    | refine ⟨?_, ?_⟩
    | intro b
    | exact absurd rfl hc
    | exact absurd hc (by decide)
    | omega
    | (dsimp only; omega)
    | fail)
theorem _root_.Pw.TO.atC40 {P : Program} {r : Rd} {c : Ctx} {L : List Assn} {ops : Array Oper} {Q : Exit → Env → Rd → World → Prop} {rest : List Oper} {E : Env} {xs : Array Operand} {ats : Array TypeId} {o : Option Nat} {ty : TypeId} {pos : String} {af : Array Edge} (h : TO P r c L ops Q (⟨o, .call ⟨.value (.func 40), xs, ats⟩, ty, pos, af, none⟩ :: rest) E) : TO P r c L ops Q (⟨o, .call ⟨.value (.func 40), xs, ats⟩, ty, pos, af, none⟩ :: rest) E := h
theorem poll_good (d p r q m A P N S nx ls : Nat) (bl dn : Int) (br : Bool) (bs wh : List UInt8) (lt tk : List Bool) (X : XC) (K : AC) (i0 : AlI A N S nx (⟨X, tk, ls, br, K, wh, lt, [], none, 0⟩ : AlS)) (hb : bs.length = N) (hS : S ≤ 256) (hP : P ≤ 1048576) (hgood : ∀ s, ¬ AllE bs A P (⟨X, tk, ls, br, K, wh, lt, [], none, 0⟩ : AlS) s true) :
    Sat Try.prog 19 [.pointer (some ⟨d, 0, none⟩)] [row 79 d [.pointer (some ⟨p, 0, none⟩), .pointer (some ⟨r, 0, none⟩), .pointer (some ⟨q, 0, none⟩), .int .u32 bl, .map (some m), .int .u32 dn, .bool false], rgA r p A X tk nx ls br, memA p bs lt, mapJ askV m (.u16, K), poolV q p P 1041 wh] (fun u L' => ∃ s, AllE bs A P (⟨X, tk, ls, br, K, wh, lt, [], none, 0⟩ : AlS) s false ∧ u = .tuple #[.slice s.oa s.ol.length s.ok, .int .i64 0] ∧ L' = [row 79 d [.pointer (some ⟨p, 0, none⟩), .pointer (some ⟨r, 0, none⟩), .pointer (some ⟨q, 0, none⟩), .int .u32 bl, .map (some m), .int .u32 dn, .bool false], rgA r p A s.X s.tk nx s.ls s.br, memA p bs s.lt, mapJ askV m (.u16, s.K), poolV q p P 1041 s.wh, Pw.sl 56 (3 + 1) (.slice s.oa s.ol.length s.ok) s.ol.length (s.ol.flatMap obV)]) := by
  intro c
  refine SatEC.calm ?_
  have hg1 : True := trivial
  have hg6 : True := trivial
  all_goals
    refine SatEC.enterD Try.func19 rfl Try.ntmps19 rfl (fun R => ?_)
    try simp only [List.cons_append, List.nil_append]
    repeat' (first
      | (refine T.atR 1 ?_; clear hg1; rename_i b1 b2; obtain ⟨b3, hb3⟩ : ∃ x, x = b := ⟨_, rfl⟩; subst hb3)
      | (refine TO.atDfr ?_; refine TO.dfr (xs := []) (first := []) (cap := [.pointer (some ⟨b2, 0, none⟩), .pointer (some ⟨b1, 0, none⟩), .pointer (some ⟨b3, 0, none⟩)]) (vs := []) rfl trivial rfl rfl ?_)
      | (refine T.atR 6 ?_; clear hg6; refine T.ent (Ent.imp imp_o0) ?_)
      | (refine TO.atC40 ?_; refine TO.e (by conv => lhs; whnf) ?_; refine ⟨N, S, ⟨rfl, i0, hb, hS, hP, (by have := i0.ok.xl; simp only [List.length_nil]; dsimp only at this; omega)⟩, fun s hs => ?_, fun s hs => absurd hs (hgood s)⟩; simp only [List.cons_append, List.nil_append])
      | (refine TQ.atOQ ?_; refine TQ.outD (f := 38) (cap := [.pointer (some ⟨b2, 0, none⟩), .pointer (some ⟨b1, 0, none⟩), .pointer (some ⟨b3, 0, none⟩)]) (ags := []) Try.call38 (rec_ret b1 b2 b3) (.nil _) ?_; rintro u' L' ⟨rfl, rfl⟩; refine ⟨rfl, ?_⟩; simp only [List.cons_append, List.nil_append]; refine TQ.finCC ?_; refine finAt ?_; exact Fini.of ⟨s, hs, rfl, rfl⟩ (by simp only [List.cons_append, List.nil_append]; repeat first | (apply Imp.pull; focus ((repeat first | with_reducible exact Del.head _ _ | with_reducible apply Del.tail); done)) | with_reducible exact Imp.refl _ | apply Imp.drop))
      | refine And.intro (fun hc => ?_) (fun hc => ?_)
      | refine And.intro ?_ ?_
      | intro b
      | refine stp ?_
      | refine TQ.finC ?_
      | refine TQ.finC2 ?_
      | refine TQ.finC3 ?_
      | refine ⟨fun hc => ?_, fun hc => ?_⟩
      | refine Ei.f ?_
      | refine ⟨?_, ?_⟩
      | intro b
      | exact absurd rfl hc
      | exact absurd hc (by decide)
      | omega
      | (dsimp only; omega)
      | fail)

end Go.Proofs.Ytfgpnipnaaeafaa

