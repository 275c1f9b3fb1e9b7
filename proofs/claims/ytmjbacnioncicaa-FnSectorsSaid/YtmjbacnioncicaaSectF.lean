/- One byte changed, or the epoch's number raised by one, changes a page's sum, and so a sector is told from what it was; plain lemmas. -/
import Derived.Test.YtmjbacnioncicaaReadF
import Derived.Test.YtmjbacnioncicaaRMetaF
import Derived.Test.YtmjbacnioncicaaBytesF
import Derived.Test.YtmjbacnioncicaaSrcF
namespace Go.Proofs.Ytmjbacnioncicaa.SectF
set_option linter.unusedVariables false
open Go Go.RowKit Go.Proofs.Ytmjbacnioncicaa.XF Go.Proofs.YtmjbacnioncicaaW.PrintWords Go.Proofs.YtmjbacnioncicaaW.PrintLast Go.Proofs.Ytmjbacnioncicaa.Aid Go.Proofs.Ytmjbacnioncicaa.CrcF Go.Proofs.Ytmjbacnioncicaa.PageF

/-! What is new -/
theorem top_not (a b : Nat) (ha : a < 2 ^ 31) (hb : b < 2 ^ 31) : a ^^^ 3988292384 ≠ b := by
  intro h
  have h1 : (a ^^^ 3988292384).testBit 31 = true := by
    rw [Nat.testBit_xor, Nat.testBit_lt_two_pow ha]
    decide
  rw [h, Nat.testBit_lt_two_pow hb] at h1
  cases h1
theorem xor_cancel {a b c : Nat} (h : a ^^^ c = b ^^^ c) : a = b := by
  have := congrArg (· ^^^ c) h
  simpa [Nat.xor_assoc, Nat.xor_self] using this
theorem xor_cancel' {a b c : Nat} (h : c ^^^ a = c ^^^ b) : a = b := by
  rw [Nat.xor_comm c a, Nat.xor_comm c b] at h
  exact xor_cancel h
theorem one_inj {a b : Nat} (ha : a < 2 ^ 32) (hb : b < 2 ^ 32) (h : one a = one b) : a = b := by
  unfold one at h
  split at h <;> split at h
  · have := xor_cancel h
    omega
  · exact absurd h (top_not _ _ (by omega) (by omega))
  · exact absurd h.symm (top_not _ _ (by omega) (by omega))
  · omega
theorem many_inj : ∀ (j : Nat) {a b : Nat}, a < 2 ^ 32 → b < 2 ^ 32 → many j a = many j b → a = b
  | 0, _, _, _, _, h => h
  | j + 1, _, _, ha, hb, h => one_inj ha hb (many_inj j (one_lt ha) (one_lt hb) h)
theorem byte_inj {a b x y : Nat} (ha : a < 2 ^ 32) (hb : b < 2 ^ 32) (hx : x < 256) (hy : y < 256) (h : byte a x = byte b y) : a ^^^ x = b ^^^ y :=
  many_inj 8 (Nat.xor_lt_two_pow ha (by omega)) (Nat.xor_lt_two_pow hb (by omega)) h
theorem all_inj : ∀ (bs : List Nat) {a b : Nat}, a < 2 ^ 32 → b < 2 ^ 32 → (∀ x ∈ bs, x < 256) → all a bs = all b bs → a = b
  | [], _, _, _, _, _, h => h
  | x :: bs, a, b, ha, hb, hx, h => by
    have hx0 := hx x (by simp)
    have := all_inj bs (byte_lt ha hx0) (byte_lt hb hx0) (fun y hy => hx y (by simp [hy])) h
    exact xor_cancel (byte_inj ha hb hx0 hx0 this)
theorem all_append : ∀ (xs ys : List Nat) (c : Nat), all c (xs ++ ys) = all (all c xs) ys
  | [], _, _ => rfl
  | x :: xs, ys, c => all_append xs ys (byte c x)
/-- One byte changed changes the sum. -/
theorem all_byte (c : Nat) (hc : c < 2 ^ 32) (pre post : List Nat) (x y : Nat) (hp : ∀ z ∈ pre, z < 256) (hq : ∀ z ∈ post, z < 256) (hx : x < 256) (hy : y < 256)
    (h : all c (pre ++ x :: post) = all c (pre ++ y :: post)) : x = y := by
  rw [all_append, all_append] at h
  have hp' := all_lt pre hc hp
  have h1 := all_inj post (byte_lt hp' hx) (byte_lt hp' hy) hq h
  exact xor_cancel' (byte_inj hp' hp' hx hy h1)
theorem one_xor (a b : Nat) : one (a ^^^ b) = one a ^^^ one b := by
  have hm : (a ^^^ b) % 2 = (a % 2 + b % 2) % 2 := by
    have h := Nat.xor_mod_two_pow (a := a) (b := b) (n := 1)
    rw [Nat.pow_one] at h
    rw [h]
    have h1 : a % 2 = 0 ∨ a % 2 = 1 := by omega
    have h2 : b % 2 = 0 ∨ b % 2 = 1 := by omega
    rcases h1 with h1 | h1 <;> rcases h2 with h2 | h2 <;> simp [h1, h2]
  have hd : (a ^^^ b) / 2 = a / 2 ^^^ b / 2 := Nat.xor_div_two
  unfold one
  rw [hd, hm]
  have h1 : a % 2 = 0 ∨ a % 2 = 1 := by omega
  have h2 : b % 2 = 0 ∨ b % 2 = 1 := by omega
  rcases h1 with h1 | h1 <;> rcases h2 with h2 | h2 <;> simp [h1, h2]
  · rw [Nat.xor_assoc]
  · rw [Nat.xor_assoc, Nat.xor_assoc, Nat.xor_comm 3988292384 (b / 2)]
  · rw [Nat.xor_assoc (a / 2) 3988292384, Nat.xor_comm (b / 2) 3988292384, ← Nat.xor_assoc 3988292384 3988292384, Nat.xor_self, Nat.zero_xor]
theorem many_xor : ∀ (j a b : Nat), many j (a ^^^ b) = many j a ^^^ many j b
  | 0, _, _ => rfl
  | j + 1, a, b => by
    show many j (one (a ^^^ b)) = many j (one a) ^^^ many j (one b)
    rw [one_xor, many_xor j]
theorem low (d : Nat) (hd : d < 256) (h : many 8 d < 256) : d = 0 := by
  have : ∀ d : Fin 256, many 8 d.1 < 256 → d.1 = 0 := by decide +kernel
  exact this ⟨d, hd⟩ h
/-- Of two bytes that change one behind the other the sum tells. -/
theorem two_inj {c x x' y y' : Nat} (hc : c < 2 ^ 32) (hx : x < 256) (hx' : x' < 256) (hy : y < 256) (hy' : y' < 256) (h : byte (byte c x) y = byte (byte c x') y') : x = x' ∧ y = y' := by
  have h1 := byte_inj (byte_lt hc hx) (byte_lt hc hx') hy hy' h
  have h2 : byte c x ^^^ byte c x' = y ^^^ y' := by
    have := congrArg (fun z => (z ^^^ byte c x') ^^^ y) h1
    have e1 : byte c x ^^^ y ^^^ byte c x' ^^^ y = byte c x ^^^ byte c x' := by
      rw [Nat.xor_assoc (byte c x), Nat.xor_comm y, ← Nat.xor_assoc (byte c x), Nat.xor_assoc (byte c x ^^^ byte c x'), Nat.xor_self, Nat.xor_zero]
    have e2 : byte c x' ^^^ y' ^^^ byte c x' ^^^ y = y ^^^ y' := by
      rw [Nat.xor_comm (byte c x') y', Nat.xor_assoc y', Nat.xor_self, Nat.xor_zero, Nat.xor_comm]
    simp only [e1, e2] at this
    exact this
  have h3 : many 8 (x ^^^ x') = y ^^^ y' := by
    rw [← h2]
    unfold byte
    rw [← many_xor]
    have e : c ^^^ x ^^^ (c ^^^ x') = x ^^^ x' := by
      rw [Nat.xor_comm c x, Nat.xor_assoc x c, ← Nat.xor_assoc c c, Nat.xor_self, Nat.zero_xor]
    rw [e]
  have hz : x ^^^ x' = 0 := low _ (Nat.xor_lt_two_pow (n := 8) hx hx') (by rw [h3]; exact Nat.xor_lt_two_pow (n := 8) hy hy')
  have hxx : x = x' := by
    have := congrArg (· ^^^ x') hz
    simpa [Nat.xor_assoc] using this
  subst hxx
  refine ⟨rfl, ?_⟩
  rw [Nat.xor_self] at hz h2
  have := congrArg (· ^^^ y') h2
  simpa [Nat.xor_assoc, Nat.xor_self] using this.symm

/-! Lists of bytes -/
def B (xs : List Int) : Prop := ∀ x ∈ xs, 0 ≤ x ∧ x < 256
theorem B.app {xs ys : List Int} (h : B xs) (k : B ys) : B (xs ++ ys) := fun x hx => (List.mem_append.1 hx).elim (h x) (k x)
theorem B.nat {xs : List Int} (h : B xs) : ∀ b ∈ xs.map Int.toNat, b < 256 := fun b hb => by
  obtain ⟨x, hx, rfl⟩ := List.mem_map.1 hb
  have := h x hx
  omega
theorem B.nats_inj : ∀ {xs ys : List Int}, B xs → B ys → xs.map Int.toNat = ys.map Int.toNat → xs = ys
  | [], [], _, _, _ => rfl
  | [], _ :: _, _, _, h => by simp at h
  | _ :: _, [], _, _, h => by simp at h
  | x :: xs, y :: ys, hx, hy, h => by
    simp only [List.map_cons, List.cons.injEq] at h
    have h1 := hx x (by simp)
    have h2 := hy y (by simp)
    have e : x = y := by omega
    rw [e, B.nats_inj (fun z hz => hx z (by simp [hz])) (fun z hz => hy z (by simp [hz])) h.2]
theorem B.set {xs : List Int} (h : B xs) (q : Nat) {v : Int} (hv : 0 ≤ v ∧ v < 256) : B (xs.set q v) := fun x hx => by
  rcases List.mem_or_eq_of_mem_set hx with h1 | rfl
  · exact h x h1
  · exact hv
theorem fin_inj {a b : Nat} (ha : a < 2 ^ 32) (hb : b < 2 ^ 32) (h : fin a = fin b) : a = b := by
  unfold fin at h
  exact xor_cancel (c := 4294967295) (Int.ofNat.inj h)
theorem four_inj {a b : Int} (ha : 0 ≤ a ∧ a < 4294967296) (hb : 0 ≤ b ∧ b < 4294967296) (h : four a = four b) : a = b := by
  unfold four at h
  simp only [List.cons.injEq, and_true] at h
  omega
/-- One byte of what is summed. -/
theorem sum_byte (pre F : List Int) (hp : B pre) (hF : B F) (q : Nat) (hq : q < F.length) (v : Int) (hv : 0 ≤ v ∧ v < 256) (h : sum (pre ++ F) = sum (pre ++ F.set q v)) : v = F[q] := by
  unfold sum at h
  have hB1 := (hp.app hF).nat
  have hB2 := (hp.app (hF.set q hv)).nat
  have h1 := fin_inj (all_lt _ (by decide) hB1) (all_lt _ (by decide) hB2) h
  have e1 : (pre ++ F).map Int.toNat = ((pre ++ F.take q).map Int.toNat) ++ (F[q]).toNat :: (F.drop (q + 1)).map Int.toNat := by
    have e : F = F.take q ++ F[q] :: F.drop (q + 1) := by rw [← List.drop_eq_getElem_cons hq, List.take_append_drop]
    have e' : (pre ++ F).map Int.toNat = (pre ++ (F.take q ++ F[q] :: F.drop (q + 1))).map Int.toNat := congrArg (fun z => (pre ++ z).map Int.toNat) e
    rw [e']
    simp only [List.map_append, List.map_cons, List.append_assoc]
  have e2 : (pre ++ F.set q v).map Int.toNat = ((pre ++ F.take q).map Int.toNat) ++ v.toNat :: (F.drop (q + 1)).map Int.toNat := by
    rw [List.set_eq_take_append_cons_drop, if_pos hq]
    simp only [List.map_append, List.map_cons, List.append_assoc]
  rw [e1, e2] at h1
  have hb := hF F[q] (List.getElem_mem _)
  have := all_byte _ (by decide) _ _ _ _ (fun z hz => (hp.app (fun x hx => hF x (List.mem_of_mem_take hx))).nat z hz) (fun z hz => B.nat (fun x hx => hF x (List.mem_of_mem_drop hx)) z hz) (by omega) (by omega) h1
  omega
theorem all_two (P T : List Nat) (hP : ∀ z ∈ P, z < 256) (hT : ∀ z ∈ T, z < 256) {x y x' y' : Nat} (hx : x < 256) (hy : y < 256) (hx' : x' < 256) (hy' : y' < 256)
    (h : all 4294967295 (P ++ x :: y :: T) = all 4294967295 (P ++ x' :: y' :: T)) : x = x' ∧ y = y' := by
  rw [all_append, all_append] at h
  have hc := all_lt P (show 4294967295 < 2 ^ 32 by decide) hP
  generalize all 4294967295 P = c at h hc
  have h3 : byte (byte c x) y = byte (byte c x') y' := all_inj T (byte_lt (byte_lt hc hx) hy) (byte_lt (byte_lt hc hx') hy') hT h
  exact two_inj hc hx hx' hy hy' h3
/-- The epoch's number raised by one. -/
theorem sum_epoch (p e : Int) (F : List Int) (hF : B F) (h0 : 0 ≤ e) (h1 : e < 60000) (h : sum (pageOf p e F) = sum (pageOf p (e + 1) F)) : False := by
  unfold sum at h
  have g1 : B (pageOf p e F) := pageOf_range p e F hF
  have g2 : B (pageOf p (e + 1) F) := pageOf_range p (e + 1) F hF
  have h2 := fin_inj (all_lt _ (by decide) g1.nat) (all_lt _ (by decide) g2.nat) h
  have s1 : ∀ n : Int, 0 ≤ n → n < 65536 → (pageOf p n F).map Int.toNat = [(p % 256).toNat, 0, 0] ++ ((n / 256) % 256).toNat :: (n % 256).toNat :: F.map Int.toNat := by
    intro n n0 n1
    have a : n / 16777216 % 256 = 0 := by omega
    have b : n / 65536 % 256 = 0 := by omega
    unfold pageOf four
    rw [a, b]
    simp
  rw [s1 e h0 (by omega), s1 (e + 1) (by omega) (by omega)] at h2
  obtain ⟨ha, hb⟩ := all_two [(p % 256).toNat, 0, 0] (F.map Int.toNat) (by intro z hz; simp only [List.mem_cons, List.not_mem_nil, or_false] at hz; omega) hF.nat (by omega) (by omega) (by omega) (by omega) h2
  omega
/-- A sector's bytes are what is summed and the sum: one byte changed, and they are so no more. -/
theorem oneoff (pre F G : List Int) (hp : B pre) (hF : B F) (hG : B G) (lF : F.length = 28) (lG : G.length = 28) (q : Nat) (hq : q < 32) (v : Int) (hv : 0 ≤ v ∧ v < 256)
    (h : (F ++ four (sum (pre ++ F))).set q v = G ++ four (sum (pre ++ G))) : v = rd (F ++ four (sum (pre ++ F))) q := by
  have hrd : ∀ (zs : List Int) (i : Nat) (hi : i < zs.length), rd zs (i : Int) = zs[i] := fun zs i hi => by simp [rd, List.getD_eq_getElem?_getD, List.getElem?_eq_getElem hi]
  have rF := sum_range (pre ++ F) (hp.app hF)
  have rG := sum_range (pre ++ G) (hp.app hG)
  rw [hrd _ q (by rw [List.length_append, lF, four_length]; omega)]
  by_cases h28 : q < 28
  · rw [List.set_append_left _ _ (by omega)] at h
    obtain ⟨h1, h2⟩ := List.append_inj h (by rw [List.length_set, lF, lG])
    have h3 := four_inj rF rG h2
    rw [← h1] at h3
    rw [List.getElem_append_left (by omega)]
    exact sum_byte pre F hp hF q (by omega) v hv h3
  · rw [List.set_append_right _ _ (by omega)] at h
    obtain ⟨h1, h2⟩ := List.append_inj h (by rw [lF, lG])
    rw [← h1] at h2
    rw [List.getElem_append_right (by omega)]
    have hl : q - F.length < (four (sum (pre ++ F))).length := by rw [lF, four_length]; omega
    have := congrArg (·[q - F.length]?) h2
    simp only [List.getElem?_set_self hl, List.getElem?_eq_getElem hl, Option.some.injEq] at this
    exact this

/-! The byte that the law changes -/
theorem xor_gen (k : IntKind) (N : Nat) (hN : N ≤ 2 ^ k.bits) (hk : ∀ n : Int, 0 ≤ n → n < N → k.wrap n = n) (a b : Nat) (ha : a < N) (hb : b < N) (hx : a ^^^ b < N) : Go.bits .xor k a b = ((a ^^^ b : Nat) : Int) := by
  have ha' : a % 2 ^ k.bits = a := Nat.mod_eq_of_lt (Nat.lt_of_lt_of_le ha hN)
  have hb' : b % 2 ^ k.bits = b := Nat.mod_eq_of_lt (Nat.lt_of_lt_of_le hb hN)
  simp only [Go.bits, BitVec.ofInt_natCast, BitVec.toNat_xor, BitVec.toNat_ofNat, ha', hb']
  exact hk _ (Int.natCast_nonneg _) (by exact_mod_cast hx)
theorem turned_val (x : Int) (b : Int) (hx : 0 ≤ x ∧ x < 256) (hb : 0 ≤ b ∧ b < 255) :
    0 ≤ Go.bits .xor .u8 x (IntKind.u8.wrap (IntKind.i64.wrap (1 + b))) ∧ Go.bits .xor .u8 x (IntKind.u8.wrap (IntKind.i64.wrap (1 + b))) < 256 ∧ Go.bits .xor .u8 x (IntKind.u8.wrap (IntKind.i64.wrap (1 + b))) ≠ x := by
  have hw8 : ∀ n : Int, 0 ≤ n → n < 256 → IntKind.u8.wrap n = n := fun n h0 h1 => by
    simp [IntKind.wrap, IntKind.bits, IntKind.signed]
    omega
  have e1 : IntKind.i64.wrap (1 + b) = 1 + b := by rw [IntKind.wrap_i64]; omega
  rw [e1, hw8 (1 + b) (by omega) (by omega)]
  obtain ⟨a, rfl⟩ : ∃ a : Nat, x = (a : Int) := ⟨x.toNat, by omega⟩
  obtain ⟨c, hc⟩ : ∃ c : Nat, 1 + b = (c : Int) := ⟨(1 + b).toNat, by omega⟩
  rw [hc]
  have ha : a < 256 := by omega
  have hc' : c < 256 := by omega
  have hx8 : a ^^^ c < 256 := Nat.xor_lt_two_pow (n := 8) ha hc'
  have e : Go.bits .xor .u8 (a : Int) (c : Int) = ((a ^^^ c : Nat) : Int) := by
    exact xor_gen .u8 256 (by decide) hw8 a c ha hc' hx8
  rw [e]
  refine ⟨by omega, by omega, fun h => ?_⟩
  have h1 : a ^^^ c = a := by omega
  have h2 : c = 0 := by
    have := congrArg (a ^^^ ·) h1
    simp only [Nat.xor_self] at this
    rw [← Nat.xor_assoc, Nat.xor_self, Nat.zero_xor] at this
    exact this
  omega

/-! Choices -/
theorem at_ok (l : List Int) (hl : B l) (hn : l.length ≤ 1048576) (i n : Int) (i0 : 0 ≤ i) (i1 : i ≤ 3) (n0 : 2 ≤ n) (n1 : n ≤ 5000) : ∃ r, laws_at.f l i n = some r ∧ 0 ≤ r ∧ r < n := by
  unfold laws_at.f
  rw [if_neg (by omega)]
  by_cases h0 : (l.length : Int) = 0
  · rw [if_pos h0, if_neg (by omega), wrap_id (x := i * 7) (by omega) (by omega), Int.tmod_eq_emod_of_nonneg (show 0 ≤ i * 7 by omega)]
    exact ⟨_, rfl, Int.emod_nonneg _ (by omega), Int.emod_lt_of_pos _ (by omega)⟩
  have hlen : 0 < (l.length : Int) := by omega
  have hrd : ∀ k : Int, 0 ≤ k → k < (l.length : Int) → 0 ≤ rd l k ∧ rd l k < 256 := fun k k0 k1 => by
    have hi : k.toNat < l.length := by omega
    have : rd l k ∈ l := by
      simp only [rd, List.getD_eq_getElem?_getD, List.getElem?_eq_getElem hi, Option.getD_some]
      exact List.getElem_mem _
    exact hl _ this
  rw [if_neg h0, wrap_id (x := i + 1) (by omega) (by omega), Int.tmod_eq_emod_of_nonneg i0, Int.tmod_eq_emod_of_nonneg (show 0 ≤ i + 1 by omega), Int.tdiv_eq_ediv_of_nonneg i0]
  have a0 := Int.emod_nonneg i (show (l.length : Int) ≠ 0 by omega)
  have a1 := Int.emod_lt_of_pos i hlen
  have b0 := Int.emod_nonneg (i + 1) (show (l.length : Int) ≠ 0 by omega)
  have b1 := Int.emod_lt_of_pos (i + 1) hlen
  rw [if_pos a0, if_pos a1, if_pos b0, if_pos b1, if_neg (by omega)]
  obtain ⟨x, hx⟩ : ∃ x, x = rd l (i % (l.length : Int)) := ⟨_, rfl⟩
  obtain ⟨y, hy⟩ : ∃ y, y = rd l ((i + 1) % (l.length : Int)) := ⟨_, rfl⟩
  have rx := hrd _ a0 a1
  have ry := hrd _ b0 b1
  rw [← hx] at rx ⊢
  rw [← hy] at ry ⊢
  have d0 : 0 ≤ i / (l.length : Int) := Int.ediv_nonneg i0 (by omega)
  have d1 : i / (l.length : Int) ≤ 3 := Int.le_trans (Int.ediv_le_self _ i0) i1
  obtain ⟨z, hz⟩ : ∃ z, z = i / (l.length : Int) := ⟨_, rfl⟩
  rw [← hz] at d0 d1 ⊢
  rw [wrap_id (x := x) (by omega) (by omega), wrap_id (x := x * 31) (by omega) (by omega), wrap_id (x := y) (by omega) (by omega), wrap_id (x := x * 31 + y) (by omega) (by omega), wrap_id (x := z) (by omega) (by omega),
    wrap_id (x := x * 31 + y + z) (by omega) (by omega), Int.tmod_eq_emod_of_nonneg (show 0 ≤ x * 31 + y + z by omega)]
  exact ⟨_, rfl, Int.emod_nonneg _ (by omega), Int.emod_lt_of_pos _ (by omega)⟩
end Go.Proofs.Ytmjbacnioncicaa.SectF
