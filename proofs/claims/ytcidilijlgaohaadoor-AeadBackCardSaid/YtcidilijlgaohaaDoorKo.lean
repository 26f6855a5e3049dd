/- Lemmas for the proofs of this seat: no statement of the seat is claimed here. -/
import Derived.Test.YtcidilijlgaohaaDoorKn
set_option linter.all false

namespace Go.Proofs.YtcidilijlgaohaaDoor
open Go Pw
set_option maxRecDepth 20000
set_option maxHeartbeats 4000000
set_option maxHeartbeats 1000000

def addK (key : List UInt8) : List UInt8 := List.take 16 key ++ List.replicate 16 0
theorem leE_nought : ∀ n, leE (List.replicate n 0) = 0
  | 0 => rfl
  | n + 1 => by rw [List.replicate_succ, leE, leE_nought n]; rfl
theorem addK_len {key : List UInt8} (h : key.length = 32) : (addK key).length = 32 := by
  rw [addK, List.length_append, List.length_take, List.length_replicate]; omega
theorem word_addK {key : List UInt8} (h : key.length = 32) (i : Nat) (hi : i < 2) : wordK (addK key) i = wordK key i := by
  unfold wordK addK
  congr 1
  have hl : (List.take (16 - 8 * i) (List.drop (8 * i) key)).length = 16 - 8 * i := by rw [List.length_take, List.length_drop]; omega
  rw [List.drop_append, List.take_append, List.drop_take, hl, show 8 - (16 - 8 * i) = 0 by omega, List.take_zero, List.append_nil, List.take_take]
  congr 1; omega
theorem TagE_32 {key s : List UInt8} (h : key.length = 32) : TagE key s = (tagE key s, 0) := by rw [TagE, if_pos h]
/-- what is gathered, below the prime -/
def gthE (key s : List UInt8) : Nat := accE (rE0 key) (rE1 key) s ((s.length + 15) / 16) % 1361129467683753853853498429727072845819
theorem adds_a {key s : List UInt8} (h : key.length = 32) {i : Nat} (hi : i < 16) : (gt (tagE key s) i).toNat = (cyE (gthE key s) (leE (key.drop 16)) i + byt (gthE key s) i + byt (leE (key.drop 16)) i) % 256 := by
  rw [tag_bytes h hi, ← gthE, byt_sum]; simp
theorem adds_b {key s : List UInt8} (h : key.length = 32) {i : Nat} (hi : i < 16) : (gt (tagE (addK key) s) i).toNat = byt (gthE key s) i := by
  rw [tag_bytes (addK_len h) hi]
  have e0 : rE0 (addK key) = rE0 key := by unfold rE0; rw [word_addK h 0 (by decide)]
  have e1 : rE1 (addK key) = rE1 key := by unfold rE1; rw [word_addK h 1 (by decide)]
  have e2 : leE ((addK key).drop 16) = 0 := by
    rw [addK, List.drop_append_of_le_length (by rw [List.length_take]; omega), List.drop_of_length_le (by rw [List.length_take]; omega), List.nil_append, leE_nought]
  rw [e0, e1, e2, ← gthE, Nat.add_zero]
  have hb : byt (gthE key s) i < 256 := Nat.mod_lt _ (by decide)
  simp; omega
theorem adds_k {key : List UInt8} {i : Nat} : (gt key (16 + i)).toNat = byt (leE (key.drop 16)) i := by
  rw [byt_le]
  unfold gt
  rw [List.getD_eq_getElem?_getD, List.getD_eq_getElem?_getD, List.getElem?_drop]
theorem adds_c {key s : List UInt8} (h : key.length = 32) {i : Nat} (hi : i < 16) : ((gt (tagE (addK key) s) i).toNat + (gt key (16 + i)).toNat + cyE (gthE key s) (leE (key.drop 16)) i) / 2 ^ 8 = cyE (gthE key s) (leE (key.drop 16)) (i + 1) := by
  rw [cy_step, adds_b h hi, adds_k, show (2 : Nat) ^ 8 = 256 from rfl]
  congr 1; omega
attribute [local irreducible] b0E c0E BlockE SealE OpenE TagE tagE gthE cyE leE
theorem adds_spec (key s : List UInt8) (hk : key.length = 32) (hs : s.length < 4294967296) :
    Sat Tryd.prog 20 [str key, str s] [] (fun u L' => u = .bool true ∧ L' = []) := by
  all_goals
    refine Sat.enter Tryd.func20 rfl Tryd.ntmps20 rfl (fun c R => ?_)
    try simp only [List.cons_append, List.nil_append]
    repeat' (first
      | exact Fini.mk ⟨rfl, rfl⟩
      | (rw [TagE_32 hk]; dsimp only)
      | (rw [show List.take 16 key ++ List.replicate 16 0 = addK key from rfl, TagE_32 (addK_len hk)]; dsimp only)
      | (refine T.atB 0 ?_; refine T.lpa 0 [(0, _), (5, _), (7, _)] (0 : Nat) (fun z => [(10, .int .i64 (z : Nat)), (9, .int .i64 (cyE (gthE key s) (leE (key.drop 16)) z : Nat))]) (fun z => []) (fun z => z ≤ 16) (fun z => 16 - z) (Nat.zero_le _) (?_) (by repeat' first | exact trivial | refine ⟨?_, ?_⟩ | (conv => lhs; whnf)) ⟨rfl, by rw [cy_0]; rfl, trivial⟩; intro i g hI; have hcy := cy_le (gthE key s) (leE (key.drop 16)) i; have hkb := (gt key (16 + i)).toNat_lt; have hbb := (gt (tagE (addK key) s) i).toNat_lt; have hki := adds_k (key := key) (i := i); simp only [List.cons_append, List.nil_append, appR])
      | (refine TQ.atL ?_; refine TQ.rd (i + 1) rfl ⟨rfl, congrArg vI (adds_c hk (by omega)), rfl, rfl, rfl, trivial⟩ (by omega) (by omega) (Ent.imp (by repeat first | exact Imp.refl _ | (apply Imp.pull; focus ((repeat first | exact Del.head _ _ | apply Del.tail); done)) | apply Imp.drop)))
      | (exact absurd (by have h1 := adds_a (s := s) hk (i := i) (by omega); have h2 := adds_b (s := s) hk (i := i) (by omega); omega) hc)
      | (rw [tagE_len]; omega)
      | exact absurd rfl hc
      | exact absurd (tagE_len _ _) hc
      | (simp only [List.length_append, List.length_take, List.length_replicate]; omega)
      | refine T.pl 2 [2, 6] (.p 0 (.p 1 (.p 5 (.n 2 (.d 3 (.p 4 (.n 6 (.p 7 (.p 8 (.p 9 (.p 10 (.p 11 .fin)))))))))))) ?_
      | refine T.pl 9 [] (.p 0 (.p 1 (.p 2 (.p 3 (.p 4 (.p 5 (.p 6 (.p 7 (.p 8 (.p 9 (.p 10 (.p 11 (.p 12 .fin))))))))))))) ?_
      | refine And.intro (fun hc => ?_) (fun hc => ?_)
      | refine And.intro ?_ ?_
      | intro b
      | refine stp ?_
      | refine TQ.finC ?_
      | refine ⟨fun hc => ?_, fun hc => ?_⟩
      | refine Ei.f ?_
      | refine ⟨?_, ?_⟩
      | intro b
      | omega
      | (dsimp only; omega)
      | (rw [show decide ((0 : Nat) ≠ 0) = false from rfl])
      | fail)

end Go.Proofs.YtcidilijlgaohaaDoor


namespace Go.Proofs.YtcidilijlgaohaaDoor
open Go Pw
set_option maxRecDepth 20000
set_option maxHeartbeats 4000000
set_option maxHeartbeats 1000000

/-- And with a number that is not below nought: some number that is not above it. -/
theorem DP.bandA {P : Program} {E : Env} {d : Option Tmp} {ty : TypeId} {pos : String} {af : Array Edge} {g : Option (Nat × Bool)} {k : IntKind} {x y : Operand} {z : Int} {b l : Nat} {t t' : TypeId} (hx : E.eval x = .int k z) (hy : E.eval y = .int k b) (hl : k.lim = l) (hb : b < l) : ∃ n : Nat, n ≤ b ∧ DP P E ⟨d, .binOp .and t x y t', ty, pos, af, g⟩ (.int k ((n : Nat) : Int)) := by
  subst hl
  have hB : b < 2 ^ k.bits := Nat.lt_of_lt_of_le hb (lim_le k)
  have hle : (BitVec.ofInt k.bits z &&& BitVec.ofInt k.bits (b : Int)).toNat ≤ b := by
    rw [ofInt_nat, BitVec.toNat_and, BitVec.toNat_ofNat, Nat.mod_eq_of_lt hB]
    exact Nat.and_le_right
  refine ⟨(BitVec.ofInt k.bits z &&& BitVec.ofInt k.bits (b : Int)).toNat, hle, ?_⟩
  unfold DP
  refine ⟨fun _ => by simp, fun w => ?_⟩
  have e : k.wrap (((BitVec.ofInt k.bits z &&& BitVec.ofInt k.bits (b : Int)).toNat : Nat) : Int) = (((BitVec.ofInt k.bits z &&& BitVec.ofInt k.bits (b : Int)).toNat : Nat) : Int) := wrap_nat (Nat.lt_of_le_of_lt hle hb)
  simp only [execOp, hx, hy, eqGuard_and, binOp_and, Op.intBits, e]; simp
instance (priority := 400) {P : Program} {k : IntKind} {x y : Int} {b l : Nat} {t : TypeId} [hl : Lim k l] [h2 : Nn y b] : Pu P (.bin .and t (.int k x) (.int k y)) (fun q => Vc (b < l) (∀ n : Nat, n ≤ b → q (.int k ((n : Nat) : Int)))) :=
  ⟨fun E d op ty pos af g hr q hk => by
    cases hr with | bin e1 e2 =>
    rw [h2.h] at e2
    obtain ⟨n, hn, hd⟩ := DP.bandA (d := d) (ty := ty) (pos := pos) (af := af) (g := g) e1 e2 hl.h hk.l
    exact ⟨_, hd, hk.r n hn⟩⟩
theorem seal_ok' {key nonce ad s : List UInt8} (h1 : key.length = 32) (h2 : nonce.length = 12) (h : max ad.length s.length ≤ 65536) : ∃ a, SealE key nonce ad s = (a, 0) ∧ OpenE key nonce ad a = (s, 0) ∧ a.length = s.length + 16 := by
  have h1 := open_seal (key := key) (nonce := nonce) h1 h2 h
  refine ⟨(SealE key nonce ad s).1, ?_, h1.1, h1.2.2⟩
  rw [← h1.2.1]
instance (priority := 950) {P : Program} {c : Ctx} {L : List Assn} {a b e e' : TypeId} {p o n k : Nat} {l : List UInt8} {rest : List Value} [ha : Und P a (.slice e)] [hb : Und P b .string] [he : Und P e (.int .u8)] [hm : RowAt L p e' (l.map byteV ++ rest)] : Re P c L (.conv a b (.slice (some ⟨p, o, none⟩) n k)) (fun q => Vc (o + n ≤ l.length) (q (str ((l.drop o).take n)))) :=
  ⟨fun E d op ty pos af g hs q hq => by
    cases hs with | conv e1 =>
    have hl := hq.l
    refine ⟨_, D.cbs (l := (l.drop o).take n) e1 ha.h hb.h he.h (by simp; omega) hm.h (ReadsN.row fun i v hv => ?_), hq.r⟩
    have hi := getS_lt hv
    rw [List.length_map, List.length_take, List.length_drop] at hi
    rw [List.map_take, List.map_drop] at hv
    rw [List.getElem?_append_left (by rw [List.length_map]; omega)]
    exact drop_reads i v hv⟩
theorem back_0 {key nonce ad s cE : List UInt8} (hO : OpenE key nonce ad cE = (s, 0)) {M : List UInt8} (hM : M = ad ++ cE) : (OpenE key nonce (M.take ad.length) (M.drop ad.length)).2 = 0 := by
  subst hM
  rw [List.take_left', List.drop_left', hO] <;> rfl
theorem set_self {l : List UInt8} {k : Nat} : l.set k (UInt8.ofNat ((gt l k).toNat ^^^ 0)) = l := by
  rw [Nat.xor_zero]
  have : UInt8.ofNat (gt l k).toNat = gt l k := by apply UInt8.toNat_inj.1; simp
  rw [this]
  apply List.ext_getElem?
  intro j
  rw [List.getElem?_set]
  split
  · next e =>
    subst e
    split
    · next h => unfold gt; rw [List.getD_eq_getElem?_getD, List.getElem?_eq_getElem h]; rfl
    · next h => rw [List.getElem?_eq_none (by omega)]
  · rfl
instance {L : List Assn} {key s : List UInt8} : FnR Tryd.prog 20 [str key, str s] L (fun kk => Vc (key.length = 32 ∧ s.length < 4294967296) (kk (.bool true) L)) :=
  ⟨fun kk h => ⟨[], L, _, adds_spec key s h.l.1 h.l.2, .nil _, fun v L' hq => by rw [hq.1, hq.2]; exact h.r⟩⟩
attribute [local irreducible] b0E c0E BlockE SealE OpenE TagE tagE gthE cyE leE
theorem back_spec (key nonce ad s : List UInt8) (at_ : Int) (by_ : Nat) (hk : key.length ≤ 140737488351232) (hn : nonce.length ≤ 140737488351232) (ha : ad.length ≤ 140737488351232) (hs : s.length ≤ 140737488351232) (hb : by_ < 256) :
    Sat Tryd.prog 8 [str key, str nonce, str ad, str s, .int .i64 at_, .int .u8 by_] [quA] (fun u L' => u = .bool true ∧ L' = [quA]) := by
  all_goals
    refine Sat.enter Tryd.func8 rfl Tryd.ntmps8 rfl (fun c R => ?_)
    try simp only [List.cons_append, List.nil_append]
    repeat' (first
      | exact Fini.mk ⟨rfl, rfl⟩
      | exact absurd rfl hc
      | exact absurd (by omega) hc
      | (refine T.atR 3 ?_; obtain ⟨cE, hS, hO, hl⟩ := seal_ok' (key := key) (nonce := nonce) (ad := ad) (s := s) (by omega) (by omega) (by omega); have hal : (ad ++ cE).length = ad.length + cE.length := List.length_append; refine Hold.h ?_)
      | (refine Vc.mk (by omega) ?_)
      | refine T.pl 10 [12] (.p 0 (.p 1 (.p 2 (.p 3 (.p 4 (.p 5 (.p 7 (.p 8 (.p 9 (.p 10 (.d 6 (.d 11 (.n 12 (.p 13 (.p 14 (.p 15 (.p 16 (.p 17 .fin)))))))))))))))))) ?_
      | refine T.pl 11 [12] (.p 0 (.p 1 (.p 2 (.p 3 (.p 4 (.p 5 (.p 7 (.p 8 (.p 9 (.p 10 (.d 6 (.d 11 (.n 12 (.p 13 (.p 14 (.p 15 (.p 16 (.p 17 .fin)))))))))))))))))) ?_
      | refine And.intro (fun hc => ?_) (fun hc => ?_)
      | refine And.intro ?_ ?_
      | intro b
      | refine stp ?_
      | refine TQ.finC ?_
      | refine ⟨fun hc => ?_, fun hc => ?_⟩
      | refine Ei.f ?_
      | refine ⟨?_, ?_⟩
      | intro b
      | omega
      | (dsimp only; omega)
      | ((try dsimp only); rw [@decide_eq_true (_ = _) _ rfl])
      | (rw [show decide ((0 : Nat) ≠ 0) = false from rfl])
      |  fail)
    all_goals try refine Hold.mk ?_
    repeat' (first
      | (rw [hS]; dsimp only)
      | (rw [hO]; dsimp only)
      | (refine Vc.mk ⟨by omega, by omega⟩ ?_)
      | (simp only [List.length_append, hl]; omega)
      | exact absurd hl hc
      | exact absurd rfl hc
      | (refine T.atR 8 ?_; refine T.osl ?_ (fun bb j rest e1 e2 hr hlr => ?_); rotate_left; cases e1; subst e2; refine Hold.h ?_)
      | (exact Nat.lt_of_lt_of_le (Nat.xor_lt_two_pow (n := 8) (UInt8.toNat_lt _) hb) (by decide))
      | refine T.pl 10 [12] (.p 0 (.p 1 (.p 2 (.p 3 (.p 4 (.p 5 (.p 7 (.p 8 (.p 9 (.p 10 (.d 6 (.d 11 (.n 12 (.p 13 (.p 14 (.p 15 (.p 16 (.p 17 .fin)))))))))))))))))) ?_
      | refine T.pl 11 [12] (.p 0 (.p 1 (.p 2 (.p 3 (.p 4 (.p 5 (.p 7 (.p 8 (.p 9 (.p 10 (.d 6 (.d 11 (.n 12 (.p 13 (.p 14 (.p 15 (.p 16 (.p 17 .fin)))))))))))))))))) ?_
      | refine And.intro (fun hc => ?_) (fun hc => ?_)
      | refine And.intro ?_ ?_
      | intro b
      | refine stp ?_
      | refine TQ.finC ?_
      | refine ⟨fun hc => ?_, fun hc => ?_⟩
      | refine Ei.f ?_
      | refine ⟨?_, ?_⟩
      | intro b
      | omega
      | (dsimp only; omega)
      | ((try dsimp only); rw [@decide_eq_true (_ = _) _ rfl])
      | (rw [show decide ((0 : Nat) ≠ 0) = false from rfl])
      |  fail)
    all_goals try refine Hold.mk ?_
    repeat' (first
      | (refine T.atR 9 ?_; rename_i kn; obtain ⟨kk, hkk⟩ : ∃ kk, kk = kn % (ad ++ cE).length := ⟨_, rfl⟩; have hkl : kk < (ad ++ cE).length := (by rw [hkk]; exact Nat.mod_lt _ (by omega)); simp only [← hkk]; refine Hold.h ?_)
      | (rw [hS]; dsimp only)
      | (rw [hO]; dsimp only)
      | (refine Vc.mk ⟨by omega, by omega⟩ ?_)
      | (simp only [List.length_append, hl]; omega)
      | exact absurd hl hc
      | exact absurd rfl hc
      | refine T.pl 10 [12] (.p 0 (.p 1 (.p 2 (.p 3 (.p 4 (.p 5 (.p 7 (.p 8 (.p 9 (.p 10 (.d 6 (.d 11 (.n 12 (.p 13 (.p 14 (.p 15 (.p 16 (.p 17 .fin)))))))))))))))))) ?_
      | refine T.pl 11 [12] (.p 0 (.p 1 (.p 2 (.p 3 (.p 4 (.p 5 (.p 7 (.p 8 (.p 9 (.p 10 (.d 6 (.d 11 (.n 12 (.p 13 (.p 14 (.p 15 (.p 16 (.p 17 .fin)))))))))))))))))) ?_
      | refine And.intro (fun hc => ?_) (fun hc => ?_)
      | refine And.intro ?_ ?_
      | intro b
      | refine stp ?_
      | refine TQ.finC ?_
      | refine ⟨fun hc => ?_, fun hc => ?_⟩
      | refine Ei.f ?_
      | refine ⟨?_, ?_⟩
      | intro b
      | omega
      | (dsimp only; omega)
      | ((try dsimp only); rw [@decide_eq_true (_ = _) _ rfl])
      | (rw [show decide ((0 : Nat) ≠ 0) = false from rfl])
      |  fail)
    all_goals try refine Hold.mk ?_
    repeat' (first
      | (refine T.atR 10 ?_; generalize hM : List.set (ad ++ cE) kk (UInt8.ofNat ((gt (ad ++ cE) kk).toNat ^^^ by_)) = M; have hMl : M.length = (ad ++ cE).length := (by rw [← hM, List.length_set]); have hM0 : by_ = 0 → M = ad ++ cE := (by rintro rfl; rw [← hM]; exact set_self); refine Hold.h ?_)
      | (rw [hS]; dsimp only)
      | (rw [hO]; dsimp only)
      | (refine Vc.mk ⟨by omega, by omega⟩ ?_)
      | (simp only [List.length_append, hl]; omega)
      | exact absurd hl hc
      | exact absurd rfl hc
      | (exact Nat.lt_of_lt_of_le (Nat.xor_lt_two_pow (n := 8) (UInt8.toNat_lt _) hb) (by decide))
      | (refine Vc.mk (by simp only [List.length_map, List.length_set, List.length_take, List.length_drop]; omega) ?_)
      | (simp only [List.length_map, List.length_set, List.length_take, List.length_drop]; omega)
      | refine T.pl 10 [12] (.p 0 (.p 1 (.p 2 (.p 3 (.p 4 (.p 5 (.p 7 (.p 8 (.p 9 (.p 10 (.d 6 (.d 11 (.n 12 (.p 13 (.p 14 (.p 15 (.p 16 (.p 17 .fin)))))))))))))))))) ?_
      | refine T.pl 11 [12] (.p 0 (.p 1 (.p 2 (.p 3 (.p 4 (.p 5 (.p 7 (.p 8 (.p 9 (.p 10 (.d 6 (.d 11 (.n 12 (.p 13 (.p 14 (.p 15 (.p 16 (.p 17 .fin)))))))))))))))))) ?_
      | refine And.intro (fun hc => ?_) (fun hc => ?_)
      | refine And.intro ?_ ?_
      | intro b
      | refine stp ?_
      | refine TQ.finC ?_
      | refine ⟨fun hc => ?_, fun hc => ?_⟩
      | refine Ei.f ?_
      | refine ⟨?_, ?_⟩
      | intro b
      | omega
      | (dsimp only; omega)
      | ((try dsimp only); rw [@decide_eq_true (_ = _) _ rfl])
      | (rw [show decide ((0 : Nat) ≠ 0) = false from rfl])
      |  fail)
    all_goals try refine Hold.mk ?_
    repeat' (first
      | (refine Vc.mk (by simp only [List.length_map, List.length_set, List.length_take, List.length_drop]; omega) ?_)
      | (simp only [List.length_map, List.length_set, List.length_take, List.length_drop]; omega)
      | (exact absurd (by rw [List.drop_zero, show ad.length * (0 + 1) = ad.length from Nat.mul_one _, List.take_of_length_le (show (List.drop ad.length M).length ≤ (ad ++ cE).length - ad.length by rw [List.length_drop]; omega)]; exact back_0 hO (hM0 (by omega))) hc)
      | exact Fini.mk ⟨rfl, rfl⟩
      | (rw [hS]; dsimp only)
      | (rw [hO]; dsimp only)
      | (refine Vc.mk ⟨by omega, by omega⟩ ?_)
      | (simp only [List.length_append, hl]; omega)
      | exact absurd hl hc
      | exact absurd rfl hc
      | (exact Nat.lt_of_lt_of_le (Nat.xor_lt_two_pow (n := 8) (UInt8.toNat_lt _) hb) (by decide))
      | refine T.pl 10 [12] (.p 0 (.p 1 (.p 2 (.p 3 (.p 4 (.p 5 (.p 7 (.p 8 (.p 9 (.p 10 (.d 6 (.d 11 (.n 12 (.p 13 (.p 14 (.p 15 (.p 16 (.p 17 .fin)))))))))))))))))) ?_
      | refine T.pl 11 [12] (.p 0 (.p 1 (.p 2 (.p 3 (.p 4 (.p 5 (.p 7 (.p 8 (.p 9 (.p 10 (.d 6 (.d 11 (.n 12 (.p 13 (.p 14 (.p 15 (.p 16 (.p 17 .fin)))))))))))))))))) ?_
      | refine And.intro (fun hc => ?_) (fun hc => ?_)
      | refine And.intro ?_ ?_
      | intro b
      | refine stp ?_
      | refine TQ.finC ?_
      | refine ⟨fun hc => ?_, fun hc => ?_⟩
      | refine Ei.f ?_
      | refine ⟨?_, ?_⟩
      | intro b
      | omega
      | (dsimp only; omega)
      | ((try dsimp only); rw [@decide_eq_true (_ = _) _ rfl])
      | (rw [show decide ((0 : Nat) ≠ 0) = false from rfl])
      | fail)

end Go.Proofs.YtcidilijlgaohaaDoor

