/- For all rows within the law's size the program's KeyBytes answers what the reference's answers; row and bytes are memory of their own; no condition. -/
import Derived.Test.YtnhfhafbdbmkpaaDoorXOpenFnExactKeyBytes
import Derived.Test.YtnhfhafbdbmkpaaDoorListK
import Derived.Lib.ReplaceLaws
import Derived.Lib.Replace
import Derived.Laws.BitsLemmas
namespace Go.Proofs.YtnhfhafbdbmkpaaDoor.fnExactKeyBytes.Pure
open Go Go.RowKit Go.Proofs.YtnhfhafbdbmkpaaDoor.XK Go.Proofs.YtnhfhafbdbmkpaaDoorW.PrintWords Go.Proofs.YtnhfhafbdbmkpaaDoorW.PrintLast Go.Proofs.YtnhfhafbdbmkpaaDoorW.PrintMore Go.Proofs.YtnhfhafbdbmkpaaDoor.Opn
open Go.Proofs.YtnhfhafbdbmkpaaDoor.Xtra Go.Proofs.YtnhfhafbdbmkpaaDoor.Aid Go.Proofs.YtnhfhafbdbmkpaaDoor.ListK

/-! A number's eight bytes -/
def eight (n : Int) : List Int := [((n + 9223372036854775808) / 72057594037927936) % 256, ((n + 9223372036854775808) / 281474976710656) % 256, ((n + 9223372036854775808) / 1099511627776) % 256, ((n + 9223372036854775808) / 4294967296) % 256,
  ((n + 9223372036854775808) / 16777216) % 256, ((n + 9223372036854775808) / 65536) % 256, ((n + 9223372036854775808) / 256) % 256, (n + 9223372036854775808) % 256]
theorem eight_length (n : Int) : (eight n).length = 8 := rfl

theorem xor_top (b : Nat) (h : b < 2 ^ 63) : 2 ^ 63 ^^^ b = 2 ^ 63 + b := by
  have h1 := Nat.two_pow_add_eq_or_of_lt h 1
  rw [Nat.mul_one] at h1
  rw [h1]
  apply Nat.eq_of_testBit_eq
  intro j
  rw [Nat.testBit_xor, Nat.testBit_or, Nat.testBit_two_pow]
  by_cases hj : 63 = j
  · subst hj
    rw [Nat.testBit_lt_two_pow h]
    simp
  · simp [hj]
theorem xor_sign (a : Nat) (h : a < 2 ^ 64) : a ^^^ 2 ^ 63 = (a + 2 ^ 63) % 2 ^ 64 := by
  rcases Nat.lt_or_ge a (2 ^ 63) with hlt | hge
  · rw [Nat.xor_comm, xor_top a hlt]
    omega
  · obtain ⟨b, rfl⟩ : ∃ b, a = 2 ^ 63 + b := ⟨a - 2 ^ 63, by omega⟩
    have hb : b < 2 ^ 63 := by omega
    rw [← xor_top b hb, Nat.xor_comm (2 ^ 63) b, Nat.xor_assoc, Nat.xor_self, Nat.xor_zero, Nat.xor_comm, xor_top b hb]
    omega
theorem turned (n : Int) : Go.bits .xor .u64 (IntKind.u64.wrap n) 9223372036854775808 = (n + 9223372036854775808) % 18446744073709551616 := by
  have hw : IntKind.u64.wrap n = n % 18446744073709551616 := by simp [IntKind.wrap, IntKind.bits, IntKind.signed]
  obtain ⟨a, ha⟩ : ∃ a : Nat, n % 18446744073709551616 = (a : Int) := ⟨(n % 18446744073709551616).toNat, by omega⟩
  have hlt : a < 2 ^ 64 := by omega
  rw [hw, ha]
  have hb : Go.bits .xor .u64 (a : Int) 9223372036854775808 = ((a ^^^ 2 ^ 63 : Nat) : Int) := by
    have hx : a ^^^ 9223372036854775808 < 18446744073709551616 := Nat.xor_lt_two_pow (n := 64) hlt (by decide)
    have h1 : (BitVec.ofInt 64 (a : Int) ^^^ BitVec.ofInt 64 9223372036854775808).toNat = a ^^^ 2 ^ 63 := by
      rw [BitVec.toNat_xor, BitVec.ofInt_natCast, BitVec.toNat_ofNat, Nat.mod_eq_of_lt hlt]
      congr 1
    show IntKind.u64.wrap ((BitVec.ofInt 64 (a : Int) ^^^ BitVec.ofInt 64 9223372036854775808).toNat : Int) = _
    rw [h1]
    simp [IntKind.wrap, IntKind.bits, IntKind.signed]
    omega
  rw [hb, xor_sign a hlt]
  omega
theorem xor_byte : ∀ x : Fin 256, x.val ^^^ 128 = (x.val + 128) % 256 := by decide +kernel
theorem turned8 (x : Int) (h0 : 0 ≤ x) (h1 : x < 256) : Go.bits .xor .u8 x 128 = (x + 128) % 256 := by
  obtain ⟨a, rfl⟩ := Int.eq_ofNat_of_zero_le h0
  have hlt : a < 256 := by omega
  have h2 : (BitVec.ofInt 8 (a : Int) ^^^ BitVec.ofInt 8 128).toNat = a ^^^ 128 := by
    rw [BitVec.toNat_xor, BitVec.ofInt_natCast, BitVec.toNat_ofNat, Nat.mod_eq_of_lt hlt]
    congr 1
  show IntKind.u8.wrap ((BitVec.ofInt 8 (a : Int) ^^^ BitVec.ofInt 8 128).toNat : Int) = _
  rw [h2, xor_byte ⟨a, hlt⟩, IntKind.wrap_u8]
  simp
theorem shr_at (k : IntKind) (hk : k.bits = 64) (x : Int) (j : Nat) (hj : j ≤ 64) : shr k x (j : Int) = x / 2 ^ j := by
  unfold shr
  rw [hk, show min (j : Int).toNat 64 = j by simp; omega]

theorem spec_eight (n : Int) (k : Nat) : spec_l01Eight.f (k + 9) n = some (eight n) := by
  unfold spec_l01Eight.f
  have i7 : wrap64 (7 - 1) = 6 := by decide +kernel
  have i6 : wrap64 (6 - 1) = 5 := by decide +kernel
  have i5 : wrap64 (5 - 1) = 4 := by decide +kernel
  have i4 : wrap64 (4 - 1) = 3 := by decide +kernel
  have i3 : wrap64 (3 - 1) = 2 := by decide +kernel
  have i2 : wrap64 (2 - 1) = 1 := by decide +kernel
  have i1 : wrap64 (1 - 1) = 0 := by decide +kernel
  have i0 : wrap64 (0 - 1) = -1 := by decide +kernel
  have e7 : IntKind.u64.wrap (wrap64 (8 * 7)) = ((56 : Nat) : Int) := by decide +kernel
  have e6 : IntKind.u64.wrap (wrap64 (8 * 6)) = ((48 : Nat) : Int) := by decide +kernel
  have e5 : IntKind.u64.wrap (wrap64 (8 * 5)) = ((40 : Nat) : Int) := by decide +kernel
  have e4 : IntKind.u64.wrap (wrap64 (8 * 4)) = ((32 : Nat) : Int) := by decide +kernel
  have e3 : IntKind.u64.wrap (wrap64 (8 * 3)) = ((24 : Nat) : Int) := by decide +kernel
  have e2 : IntKind.u64.wrap (wrap64 (8 * 2)) = ((16 : Nat) : Int) := by decide +kernel
  have e1 : IntKind.u64.wrap (wrap64 (8 * 1)) = ((8 : Nat) : Int) := by decide +kernel
  have e0 : IntKind.u64.wrap (wrap64 (8 * 0)) = ((0 : Nat) : Int) := by decide +kernel
  rw [spec_l01Eight.l0, if_pos (by decide), e7, if_pos (by decide), if_pos (by decide), i7]
  rw [spec_l01Eight.l0, if_pos (by decide), e6, if_pos (by decide), if_pos (by simp), i6]
  rw [spec_l01Eight.l0, if_pos (by decide), e5, if_pos (by decide), if_pos (by simp), i5]
  rw [spec_l01Eight.l0, if_pos (by decide), e4, if_pos (by decide), if_pos (by simp), i4]
  rw [spec_l01Eight.l0, if_pos (by decide), e3, if_pos (by decide), if_pos (by simp), i3]
  rw [spec_l01Eight.l0, if_pos (by decide), e2, if_pos (by decide), if_pos (by simp), i2]
  rw [spec_l01Eight.l0, if_pos (by decide), e1, if_pos (by decide), if_pos (by simp), i1]
  rw [spec_l01Eight.l0, if_pos (by decide), e0, if_pos (by decide), if_pos (by simp), i0]
  rw [spec_l01Eight.l0, if_neg (by decide), if_pos (by simp)]
  rw [shr_at .i64 rfl _ _ (by omega), shr_at .i64 rfl _ _ (by omega), shr_at .i64 rfl _ _ (by omega), shr_at .i64 rfl _ _ (by omega), shr_at .i64 rfl _ _ (by omega), shr_at .i64 rfl _ _ (by omega), shr_at .i64 rfl _ _ (by omega), shr_at .i64 rfl _ _ (by omega)]
  simp only [List.nil_append, List.cons_append, show (0 : Int).toNat = 0 from rfl, List.set_cons_zero]
  have hrd : ∀ (x : Int) (xs : List Int), rd (x :: xs) 0 = x := fun _ _ => rfl
  rw [hrd, turned8 _ (by omega) (by omega)]
  unfold eight
  congr 1
  simp only [List.cons.injEq, and_true]
  omega

theorem impl_eight (n : Int) (k : Nat) : impl_highBytes.f (k + 9) (Go.bits .xor .u64 (IntKind.u64.wrap n) 9223372036854775808) 8 = some (eight n) := by
  unfold impl_highBytes.f
  rw [if_pos (by decide), if_pos (by decide), turned]
  obtain ⟨m, hm⟩ : ∃ m, m = (n + 9223372036854775808) % 18446744073709551616 := ⟨_, rfl⟩
  have e0 : wrap64 (8 * (wrap64 ((wrap64 (8 - 1)) - 0))) = ((56 : Nat) : Int) := by decide +kernel
  have e1 : wrap64 (8 * (wrap64 ((wrap64 (8 - 1)) - 1))) = ((48 : Nat) : Int) := by decide +kernel
  have e2 : wrap64 (8 * (wrap64 ((wrap64 (8 - 1)) - 2))) = ((40 : Nat) : Int) := by decide +kernel
  have e3 : wrap64 (8 * (wrap64 ((wrap64 (8 - 1)) - 3))) = ((32 : Nat) : Int) := by decide +kernel
  have e4 : wrap64 (8 * (wrap64 ((wrap64 (8 - 1)) - 4))) = ((24 : Nat) : Int) := by decide +kernel
  have e5 : wrap64 (8 * (wrap64 ((wrap64 (8 - 1)) - 5))) = ((16 : Nat) : Int) := by decide +kernel
  have e6 : wrap64 (8 * (wrap64 ((wrap64 (8 - 1)) - 6))) = ((8 : Nat) : Int) := by decide +kernel
  have e7 : wrap64 (8 * (wrap64 ((wrap64 (8 - 1)) - 7))) = ((0 : Nat) : Int) := by decide +kernel
  have i0 : wrap64 (0 + 1) = 1 := by decide +kernel
  have i1 : wrap64 (1 + 1) = 2 := by decide +kernel
  have i2 : wrap64 (2 + 1) = 3 := by decide +kernel
  have i3 : wrap64 (3 + 1) = 4 := by decide +kernel
  have i4 : wrap64 (4 + 1) = 5 := by decide +kernel
  have i5 : wrap64 (5 + 1) = 6 := by decide +kernel
  have i6 : wrap64 (6 + 1) = 7 := by decide +kernel
  have i7 : wrap64 (7 + 1) = 8 := by decide +kernel
  rw [← hm]
  simp only [Option.bind_some, show (8 : Int).toNat = 8 from rfl, List.replicate, List.length_cons, List.length_nil]
  rw [impl_highBytes.l0, if_pos (by decide), e0, if_pos (by decide), if_pos (by decide), if_pos (by decide), i0]
  rw [impl_highBytes.l0, if_pos (by decide), e1, if_pos (by decide), if_pos (by decide), if_pos (by simp), i1]
  rw [impl_highBytes.l0, if_pos (by decide), e2, if_pos (by decide), if_pos (by decide), if_pos (by simp), i2]
  rw [impl_highBytes.l0, if_pos (by decide), e3, if_pos (by decide), if_pos (by decide), if_pos (by simp), i3]
  rw [impl_highBytes.l0, if_pos (by decide), e4, if_pos (by decide), if_pos (by decide), if_pos (by simp), i4]
  rw [impl_highBytes.l0, if_pos (by decide), e5, if_pos (by decide), if_pos (by decide), if_pos (by simp), i5]
  rw [impl_highBytes.l0, if_pos (by decide), e6, if_pos (by decide), if_pos (by decide), if_pos (by simp), i6]
  rw [impl_highBytes.l0, if_pos (by decide), e7, if_pos (by decide), if_pos (by decide), if_pos (by simp), i7]
  rw [impl_highBytes.l0, if_neg (by decide)]
  rw [shr_at .u64 rfl _ _ (by omega), shr_at .u64 rfl _ _ (by omega), shr_at .u64 rfl _ _ (by omega), shr_at .u64 rfl _ _ (by omega), shr_at .u64 rfl _ _ (by omega), shr_at .u64 rfl _ _ (by omega), shr_at .u64 rfl _ _ (by omega), shr_at .u64 rfl _ _ (by omega)]
  simp only [show (0 : Int).toNat = 0 from rfl, show (1 : Int).toNat = 1 from rfl, show (2 : Int).toNat = 2 from rfl, show (3 : Int).toNat = 3 from rfl, show (4 : Int).toNat = 4 from rfl, show (5 : Int).toNat = 5 from rfl, show (6 : Int).toNat = 6 from rfl, show (7 : Int).toNat = 7 from rfl,
    List.set_cons_zero, List.set_cons_succ]
  subst hm
  unfold eight
  congr 1
  simp only [List.cons.injEq, and_true]
  omega

/-! A text's bytes, each nought with a byte behind it -/
def esc (xs : List Int) : List Int := xs.flatMap fun x => if x = 0 then [0, 255] else [x]
theorem esc_append (xs ys : List Int) : esc (xs ++ ys) = esc xs ++ esc ys := List.flatMap_append
theorem esc_length (xs : List Int) : (esc xs).length ≤ 2 * xs.length := by
  induction xs with
  | nil => simp [esc]
  | cons x xs ih =>
    have h : esc (x :: xs) = (if x = 0 then [0, 255] else [x]) ++ esc xs := rfl
    rw [h, List.length_append, List.length_cons]
    have : (if x = 0 then [0, 255] else [x] : List Int).length ≤ 2 := by split <;> simp
    omega
theorem rep_miss (o c : UInt8) (new : List UInt8) (h : c ≠ o) (r : List UInt8) : ∀ k, k ≤ r.count o → Lib.replaceK [o] new k (c :: r) = c :: Lib.replaceK [o] new k r
  | 0, _ => rfl
  | k + 1, hk => by
    have hc : 0 < Lib.count r [o] := by rw [Lib.count_one]; omega
    obtain ⟨i, hi⟩ := Lib.index_of_count hc
    have hi' : Lib.index (c :: r) [o] = ((i + 1 : Nat) : Int) := by
      rw [Lib.index_one] at hi ⊢
      unfold Lib.indexByte
      rw [if_neg (by simpa using h), hi, if_neg (by simp)]
      omega
    rw [Lib.replaceK_hit [o] new k (c :: r) (i + 1) hi', Lib.replaceK_hit [o] new k r i hi]
    simp
theorem rep_one (o : UInt8) (new : List UInt8) : ∀ s : List UInt8, Lib.replaceK [o] new (s.count o) s = s.flatMap fun c => if c = o then new else [c]
  | [] => rfl
  | c :: r => by
    by_cases h : c = o
    · subst h
      have h0 : Lib.index (c :: r) [c] = ((0 : Nat) : Int) := by
        rw [Lib.index_one]
        unfold Lib.indexByte
        rw [if_pos (by simp)]
        rfl
      rw [List.count_cons_self, Lib.replaceK_hit [c] new (r.count c) (c :: r) 0 h0]
      simp only [List.take_zero, List.nil_append, List.length_cons, List.length_nil, List.drop_succ_cons, List.drop_zero, List.flatMap_cons, if_true, Nat.zero_add]
      rw [rep_one c new r]
    · have hc : (c :: r).count o = r.count o := by rw [List.count_cons_of_ne h]
      rw [hc, rep_miss o c new h r _ (Nat.le_refl _), rep_one o new r, List.flatMap_cons, if_neg h]
      rfl
theorem replaced (t : ByteArray) (ht : t.size ≤ 60) : ∃ r, strings_ReplaceAll.f t ⟨#[0]⟩ ⟨#[0, 255]⟩ = some r ∧ bytesOf r = esc (bytesOf t) := by
  unfold strings_ReplaceAll.f
  have hc := Lib.countB_mul_le (⟨#[0]⟩ : ByteArray) (by decide) t.size t (Nat.le_refl _)
  have h1 : (⟨#[0]⟩ : ByteArray).size = 1 := rfl
  have h2 : (⟨#[0, 255]⟩ : ByteArray).size = 2 := rfl
  rw [h1] at hc
  rw [if_pos ⟨by decide, by omega, by rw [h2]; omega⟩]
  refine ⟨_, rfl, ?_⟩
  have hr : Lib.replaceAll t.data.toList (⟨#[0]⟩ : ByteArray).data.toList (⟨#[0, 255]⟩ : ByteArray).data.toList = t.data.toList.flatMap fun c => if c = 0 then [0, 255] else [c] := by
    have hn : Lib.replaceNum t.data.toList [0] (-1) = t.data.toList.count 0 := by
      unfold Lib.replaceNum
      rw [if_pos (.inl (by decide)), Lib.count_one]
    show Lib.replace t.data.toList [0] [0, 255] (-1) = _
    unfold Lib.replace
    rw [if_neg (by decide), hn, rep_one]
  rw [hr]
  unfold bytesOf esc
  simp only [List.map_flatMap, List.flatMap_map]
  congr 1
  funext c
  by_cases h : c = 0
  · subst h
    rfl
  · have : ¬ (c.toNat : Int) = 0 := fun e => h (UInt8.toNat_inj.1 (by simpa using e))
    rw [if_neg h, if_neg this]
    rfl

/-! A row's key -/
def enc (v : S39) : List Int := [v.f0 % 256] ++ (if v.f0 = 1 then [v.f1 % 256] else if v.f0 = 2 then eight v.f1 else if v.f0 = 3 ∨ v.f0 = 4 then esc (bytesOf v.f2) ++ [0, 1] else [])
def out (l : List S39) : List Int := (l.map enc).flatten
theorem okV_size (v : S39) (h : okV v = true) (h0 : v.f0 = 3 ∨ v.f0 = 4) : v.f2.size ≤ 60 := by
  have hs := okV_spec v
  rw [h] at hs
  unfold spec_ValueOK.f at hs
  rcases h0 with h0 | h0
  · rw [h0] at hs
    by_cases h1 : v.f1 = 0 <;> simp [h1] at hs
    omega
  · rw [h0] at hs
    by_cases h1 : v.f1 = 0 <;> simp [h1] at hs
    omega
theorem enc_length (v : S39) (h : okV v = true) : (enc v).length ≤ 123 := by
  unfold enc
  have hs := okV_size v h
  by_cases h1 : v.f0 = 1
  · simp [h1]
  by_cases h2 : v.f0 = 2
  · simp [h2, eight]
  by_cases h3 : v.f0 = 3 ∨ v.f0 = 4
  · have := hs h3
    have he := esc_length (bytesOf v.f2)
    rw [bytesOf_length] at he
    rw [if_neg h1, if_neg h2, if_pos h3]
    simp
    omega
  · simp [h1, h2, h3]

/-- The reference's loop over a text. -/
theorem spec_text (l : List S39) (x4 f0 f1 : Int) (t : ByteArray) (ht : t.size ≤ 60) (r : List Int) : ∀ (d i : Nat) (acc : List Int), i + d = t.size → acc.length ≤ 2000 + 2 * i →
    Ev (fun k => spec_l01Key.l0 k l (acc ++ esc ((bytesOf t).drop i) ++ [0, 1]) (wrap64 (x4 + 1))) r → Ev (fun k => spec_l01Key.l1 k l acc x4 (i : Int) f0 f1 t) r := by
  intro d
  induction d with
  | zero =>
    intro i acc hi hacc h
    have hd : (bytesOf t).drop i = [] := List.drop_eq_nil_of_le (by rw [bytesOf_length]; omega)
    rw [hd] at h
    refine Ev.step (fun k => ?_) h
    simp only [spec_l01Key.l1]
    rw [if_neg (by omega), Option.bind_some, if_pos (by simp; omega)]
    simp [esc]
  | succ d ih =>
    intro i acc hi hacc h
    have hlt : i < t.size := by omega
    have hl : i < (bytesOf t).length := by rw [bytesOf_length]; exact hlt
    have hb : (bytesOf t).drop i = bt t (i : Int) :: (bytesOf t).drop (i + 1) := by
      rw [List.drop_eq_getElem_cons hl, ← rd_bytesOf]
      congr 1
      simp [rd, List.getD_eq_getElem?_getD, List.getElem?_eq_getElem hl]
    have hw : wrap64 ((i : Int) + 1) = ((i + 1 : Nat) : Int) := by
      rw [wrap_id (by omega) (by omega)]
      omega
    obtain ⟨x, hx⟩ : ∃ x, x = bt t (i : Int) := ⟨_, rfl⟩
    rw [hb, ← hx] at h
    have hesc : esc (x :: (bytesOf t).drop (i + 1)) = (if x = 0 then [0, 255] else [x]) ++ esc ((bytesOf t).drop (i + 1)) := rfl
    rw [hesc] at h
    by_cases h0 : x = 0
    · rw [if_pos h0] at h
      have hn := ih (i + 1) (acc ++ [0] ++ [255]) (by omega) (by simp; omega) (by simpa using h)
      refine Ev.step (fun k => ?_) hn
      simp only [spec_l01Key.l1]
      rw [if_pos (by omega), if_pos (by omega), if_pos (by omega), ← hx, Option.bind_some, if_pos h0, if_pos (by simp; omega), hw, h0]
    · rw [if_neg h0] at h
      have hn := ih (i + 1) (acc ++ [x]) (by omega) (by simp; omega) (by simpa using h)
      refine Ev.step (fun k => ?_) hn
      simp only [spec_l01Key.l1]
      rw [if_pos (by omega), if_pos (by omega), if_pos (by omega), ← hx, Option.bind_some, if_neg h0, hw]

theorem spec_loop (l : List S39) (hl : l.length ≤ 8) (ho : ∀ v ∈ l, okV v = true) : ∀ (d i : Nat) (acc : List Int), i + d = l.length → acc.length ≤ 1 + 123 * i →
    Ev (fun k => spec_l01Key.l0 k l acc (i : Int)) (acc ++ ((l.drop i).map enc).flatten) := by
  intro d
  induction d with
  | zero =>
    intro i acc hi _
    refine Ev.step (f := fun _ => some (acc ++ ((l.drop i).map enc).flatten)) (fun k => ?_) (Ev.now _)
    simp only [spec_l01Key.l0]
    rw [if_neg (by omega), List.drop_eq_nil_of_le (by omega)]
    simp
  | succ d ih =>
    intro i acc hi hacc
    have hil : i < l.length := by omega
    obtain ⟨v, hv⟩ : ∃ v, v = l[i] := ⟨_, rfl⟩
    have hr : rd_T39 l (i : Int) = v := by rw [rd27 l i hil, hv]
    have hov : okV v = true := by rw [hv]; exact ho _ (List.getElem_mem _)
    have hd : l.drop i = v :: l.drop (i + 1) := by rw [hv]; exact List.drop_eq_getElem_cons hil
    have hel := enc_length v hov
    have hsz := okV_size v hov
    have hnext := ih (i + 1) (acc ++ enc v) (by omega) (by rw [List.length_append]; omega)
    have hgoal : acc ++ ((l.drop i).map enc).flatten = acc ++ enc v ++ ((l.drop (i + 1)).map enc).flatten := by
      rw [hd]
      simp
    have hw : wrap64 ((i : Int) + 1) = ((i + 1 : Nat) : Int) := by
      rw [wrap_id (by omega) (by omega)]
      omega
    rw [hgoal]
    by_cases h1 : v.f0 = 1
    · refine Ev.step (fun k => ?_) hnext
      simp only [spec_l01Key.l0, hr]
      rw [if_pos (by omega), if_pos (by omega), if_pos (by omega), Option.bind_some, if_pos h1, if_pos (by simp; omega), hw]
      congr 1
      unfold enc
      simp [h1]
    by_cases h2 : v.f0 = 2
    · refine Ev.step (f := fun k => (spec_l01Eight.f k v.f1).bind fun t => spec_l01Key.l0 k l (acc ++ [v.f0 % 256] ++ t) ((i + 1 : Nat) : Int)) (fun k => ?_) ?_
      · simp only [spec_l01Key.l0, hr]
        rw [if_pos (by omega), if_pos (by omega), if_pos (by omega), Option.bind_some, if_neg h1, if_pos h2, hw]
        cases he : spec_l01Eight.f k v.f1 with
        | none => rfl
        | some t =>
          have ht : t = eight v.f1 := by
            have h9 := spec_eight v.f1 k
            have := at_rounds (g := fun k => spec_l01Eight.f k v.f1) (fun k => spec_l01Eight.mono v.f1 k) (show k ≤ k + 9 by omega) he
            rw [h9] at this
            exact (Option.some.inj this).symm
          simp only [Option.bind_some]
          rw [if_pos (by rw [ht, eight_length]; simp; omega)]
      · refine Ev.bind (a := eight v.f1) ⟨9, fun k hk => by
          obtain ⟨m, rfl⟩ : ∃ m, k = m + 9 := ⟨k - 9, by omega⟩
          exact spec_eight v.f1 m⟩ ?_
        have : acc ++ [v.f0 % 256] ++ eight v.f1 = acc ++ enc v := by
          unfold enc
          simp [h2]
        rw [this]
        exact hnext
    by_cases h34 : v.f0 = 3 ∨ v.f0 = 4
    · have hs := hsz h34
      have he : acc ++ [v.f0 % 256] ++ esc (bytesOf v.f2) ++ [0, 1] = acc ++ enc v := by
        unfold enc
        rw [if_neg h1, if_neg h2, if_pos h34]
        simp
      have htext := spec_text l (i : Int) v.f0 v.f1 v.f2 hs _ v.f2.size 0 (acc ++ [v.f0 % 256]) (by omega) (by simp; omega) (by rw [List.drop_zero, he, hw]; exact hnext)
      have hj : Ev (fun k => spec_l01Key.j1 k l (acc ++ [v.f0 % 256]) (i : Int) true v.f0 v.f1 v.f2) (acc ++ enc v ++ ((l.drop (i + 1)).map enc).flatten) := by
        refine Ev.step (fun k => ?_) htext
        simp only [spec_l01Key.j1]
        rfl
      refine Ev.step (fun k => ?_) hj
      simp only [spec_l01Key.l0, hr]
      rw [if_pos (by omega), if_pos (by omega), if_pos (by omega), Option.bind_some, if_neg h1, if_neg h2]
      by_cases h3 : v.f0 = 3
      · rw [if_pos h3, h3]
        rfl
      · have h4 : v.f0 = 4 := h34.resolve_left h3
        rw [if_neg h3, h4]
        rfl
    · have hj : Ev (fun k => spec_l01Key.j1 k l (acc ++ [v.f0 % 256]) (i : Int) false v.f0 v.f1 v.f2) (acc ++ enc v ++ ((l.drop (i + 1)).map enc).flatten) := by
        refine Ev.step (fun k => ?_) hnext
        simp only [spec_l01Key.j1, Bool.false_eq_true, if_false, hw]
        congr 1
        unfold enc
        simp [h1, h2, h34]
      refine Ev.step (fun k => ?_) hj
      simp only [spec_l01Key.l0, hr]
      have hf : (v.f0 == 4) = false := beq_eq_false_iff_ne.2 (fun h => h34 (.inr h))
      rw [if_pos (by omega), if_pos (by omega), if_pos (by omega), Option.bind_some, if_neg h1, if_neg h2, if_neg (fun h => h34 (.inl h)), hf]

theorem hasText_some (k : Int) : impl_hasText.f k = some (decide (k = 3 ∨ k = 4)) := by
  unfold impl_hasText.f
  by_cases h3 : k = 3
  · simp [h3]
  · by_cases h4 : k = 4
    · simp [h4]
    · simp [h3, h4]

theorem impl_loop (l : List S39) (hl : l.length ≤ 8) (ho : ∀ v ∈ l, okV v = true) : ∀ (d i : Nat) (acc : List Int), i + d = l.length → acc.length ≤ 1 + 123 * i →
    Ev (fun k => impl_keyBytes.l0 k acc l (l.length : Int) (i : Int)) (acc ++ ((l.drop i).map enc).flatten) := by
  intro d
  induction d with
  | zero =>
    intro i acc hi _
    refine Ev.step (f := fun _ => some (acc ++ ((l.drop i).map enc).flatten)) (fun k => ?_) (Ev.now _)
    simp only [impl_keyBytes.l0]
    rw [if_neg (by omega), List.drop_eq_nil_of_le (by omega)]
    simp
  | succ d ih =>
    intro i acc hi hacc
    have hil : i < l.length := by omega
    obtain ⟨v, hv⟩ : ∃ v, v = l[i] := ⟨_, rfl⟩
    have hr : rd_T39 l (i : Int) = v := by rw [rd27 l i hil, hv]
    have hov : okV v = true := by rw [hv]; exact ho _ (List.getElem_mem _)
    have hd : l.drop i = v :: l.drop (i + 1) := by rw [hv]; exact List.drop_eq_getElem_cons hil
    have hel := enc_length v hov
    have hsz := okV_size v hov
    have hnext := ih (i + 1) (acc ++ enc v) (by omega) (by rw [List.length_append]; omega)
    have hgoal : acc ++ ((l.drop i).map enc).flatten = acc ++ enc v ++ ((l.drop (i + 1)).map enc).flatten := by
      rw [hd]
      simp
    have hw : wrap64 ((i : Int) + 1) = ((i + 1 : Nat) : Int) := by
      rw [wrap_id (by omega) (by omega)]
      omega
    rw [hgoal]
    by_cases h1 : v.f0 = 1
    · refine Ev.step (fun k => ?_) hnext
      simp only [impl_keyBytes.l0, hr]
      rw [if_pos (by omega), if_pos (by omega), if_pos (by omega), if_pos (by omega), Option.bind_some, if_pos h1, if_pos (by simp; omega), hw]
      congr 1
      unfold enc
      simp [h1]
    by_cases h2 : v.f0 = 2
    · refine Ev.step (f := fun k => (impl_highBytes.f k (Go.bits .xor .u64 (IntKind.u64.wrap v.f1) 9223372036854775808) 8).bind fun t => impl_keyBytes.l0 k (acc ++ [v.f0 % 256] ++ t) l (l.length : Int) ((i + 1 : Nat) : Int)) (fun k => ?_) ?_
      · simp only [impl_keyBytes.l0, hr]
        rw [if_pos (by omega), if_pos (by omega), if_pos (by omega), if_pos (by omega), Option.bind_some, if_neg h1, if_pos h2, hw]
        cases he : impl_highBytes.f k (Go.bits .xor .u64 (IntKind.u64.wrap v.f1) 9223372036854775808) 8 with
        | none => rfl
        | some t =>
          have ht : t = eight v.f1 := by
            have h9 := impl_eight v.f1 k
            have := at_rounds (g := fun k => impl_highBytes.f k (Go.bits .xor .u64 (IntKind.u64.wrap v.f1) 9223372036854775808) 8) (fun k => impl_highBytes.mono _ _ k) (show k ≤ k + 9 by omega) he
            rw [h9] at this
            exact (Option.some.inj this).symm
          simp only [Option.bind_some]
          rw [if_pos (by rw [ht, eight_length]; simp; omega)]
      · refine Ev.bind (a := eight v.f1) ⟨9, fun k hk => by
          obtain ⟨m, rfl⟩ : ∃ m, k = m + 9 := ⟨k - 9, by omega⟩
          exact impl_eight v.f1 m⟩ ?_
        have : acc ++ [v.f0 % 256] ++ eight v.f1 = acc ++ enc v := by
          unfold enc
          simp [h2]
        rw [this]
        exact hnext
    by_cases h34 : v.f0 = 3 ∨ v.f0 = 4
    · have hs := hsz h34
      have he : acc ++ [v.f0 % 256] ++ esc (bytesOf v.f2) ++ [0, 1] = acc ++ enc v := by
        unfold enc
        rw [if_neg h1, if_neg h2, if_pos h34]
        simp
      obtain ⟨t, ht, hb⟩ := replaced v.f2 hs
      have htz : t.size ≤ 120 := by
        have h3 := esc_length (bytesOf v.f2)
        rw [← hb, bytesOf_length, bytesOf_length] at h3
        omega
      refine Ev.step (fun k => ?_) hnext
      simp only [impl_keyBytes.l0, hr]
      rw [if_pos (by omega), if_pos (by omega), if_pos (by omega), if_pos (by omega), Option.bind_some, if_neg h1, if_neg h2, hw, hasText_some, Option.bind_some, if_pos (by simpa using h34), ht, Option.bind_some]
      rw [if_pos (by simp; omega), Option.bind_some, Option.bind_some, if_pos (by simp [bytesOf_length]; omega), hb, he]
    · refine Ev.step (fun k => ?_) hnext
      simp only [impl_keyBytes.l0, hr]
      rw [if_pos (by omega), if_pos (by omega), if_pos (by omega), if_pos (by omega), Option.bind_some, if_neg h1, if_neg h2, hw, hasText_some, Option.bind_some, if_neg (by simpa using h34)]
      congr 1
      unfold enc
      simp [h1, h2, h34]

theorem okRow_iff (l : List S39) (h : okRow l = true) : l.length ≤ 8 ∧ ∀ v ∈ l, okV v = true := by
  unfold okRow at h
  simpa using h
def ans (l : List S39) : List Int × Int := if (l.length : Int) > 4096 then ([], 2) else if okRow l = true then (out l, 0) else ([], 1)
theorem ans_spec (l : List S39) : Ev (fun k => spec_KeyBytes.f k l) (ans l) := by
  unfold spec_KeyBytes.f ans
  by_cases h0 : (l.length : Int) > 4096
  · rw [if_pos h0]
    exact Ev.congr (fun k => if_pos h0) (Ev.now _)
  rw [if_neg h0]
  refine Ev.congr (fun k => if_neg h0) (Ev.bind (row_spec l) ?_)
  cases hk : okRow l with
  | false => exact Ev.congr (fun k => if_neg (by simp)) (Ev.now _)
  | true =>
    obtain ⟨hl, ho⟩ := okRow_iff l hk
    refine Ev.congr (fun k => if_pos rfl) ?_
    have := spec_loop l hl ho l.length 0 [] (by omega) (by simp)
    exact Ev.bind (g := fun k => spec_l01Key.f k l) (a := out l) (by simpa [spec_l01Key.f, out] using this) (Ev.now _)
theorem ans_impl (l : List S39) : Ev (fun k => impl_KeyBytes.f k l) (ans l) := by
  unfold impl_KeyBytes.f ans
  by_cases h0 : (l.length : Int) > 4096
  · rw [if_pos h0]
    exact Ev.congr (fun k => if_pos h0) (Ev.now _)
  rw [if_neg h0]
  refine Ev.congr (fun k => if_neg h0) (Ev.bind (Ev.congr (fun _ => row_impl l) (Ev.now _)) ?_)
  cases hk : okRow l with
  | false => exact Ev.congr (fun k => if_neg (by simp)) (Ev.now _)
  | true =>
    obtain ⟨hl, ho⟩ := okRow_iff l hk
    refine Ev.congr (fun k => if_pos rfl) ?_
    have := impl_loop l hl ho l.length 0 [] (by omega) (by simp)
    exact Ev.bind (g := fun k => impl_keyBytes.f k l) (a := out l) (by simpa [impl_keyBytes.f, out] using this) (Ev.now _)
theorem ans_length (l : List S39) : (ans l).1.length ≤ 1000 := by
  unfold ans
  split
  · simp
  split
  · rename_i h
    obtain ⟨hl, ho⟩ := okRow_iff l h
    have : ∀ m : List S39, (∀ v ∈ m, okV v = true) → (m.map enc).flatten.length ≤ 123 * m.length := by
      intro m
      induction m with
      | nil => simp
      | cons v m ih =>
        intro hm
        have h1 := enc_length v (hm v (by simp))
        have h2 := ih (fun x hx => hm x (by simp [hx]))
        simp only [List.map_cons, List.flatten_cons, List.length_append, List.length_cons]
        omega
    have := this l ho
    simp only [out]
    omega
  · simp

/-! The law's own work: likeness and marks of bytes, marks of values -/
theorem eqb_loop (xs : List Int) (hn : xs.length ≤ 140737488351232) : ∀ (d i : Nat), i + d = xs.length →
    Ev (fun k => laws_eqByteS.l0 k xs xs (i : Int)) true := by
  intro d
  induction d with
  | zero =>
    intro i hi
    refine Ev.step (f := fun _ => some true) (fun k => ?_) (Ev.now _)
    simp only [laws_eqByteS.l0]
    rw [if_neg (by omega)]
  | succ d ih =>
    intro i hi
    refine Ev.step (fun k => ?_) (ih (i + 1) (by omega))
    simp only [laws_eqByteS.l0]
    rw [if_pos (by omega), if_pos (by omega), if_pos (by omega), if_pos trivial, wrap_id (by omega) (by omega)]
    rfl
theorem eqb_same (xs : List Int) (hn : xs.length ≤ 140737488351232) : Ev (fun k => laws_eqByteS.f k xs xs) true := by
  refine Ev.congr (fun k => ?_) (eqb_loop xs hn xs.length 0 (by omega))
  unfold laws_eqByteS.f
  rw [if_pos rfl]
  rfl
/-- What marks leave: at place j the number 1 + j, as a byte. -/
theorem mark_loop (n : Nat) (hn : n ≤ 1000) : ∀ (d i : Nat) (xs : List Int), i + d = n → xs.length = n → (∀ j, j < i → rd xs (j : Int) = ((1 + j : Nat) : Int) % 256) →
    ∃ ys, Ev (fun k => laws_markByteS.l0 k xs ((1 + i : Nat) : Int) (i : Int)) (((1 + n : Nat) : Int), ys) ∧ ys.length = n ∧ ∀ j, j < n → rd ys (j : Int) = ((1 + j : Nat) : Int) % 256 := by
  intro d
  induction d with
  | zero =>
    intro i xs hi hx hm
    obtain rfl : i = n := by omega
    refine ⟨xs, Ev.step (f := fun _ => some (((1 + i : Nat) : Int), xs)) (fun k => ?_) (Ev.now _), hx, hm⟩
    simp only [laws_markByteS.l0]
    rw [if_neg (by omega)]
  | succ d ih =>
    intro i xs hi hx hm
    obtain ⟨ys, he, hy, hq⟩ := ih (i + 1) (xs.set i (((1 + i : Nat) : Int) % 256)) (by omega) (by rw [List.length_set]; exact hx) (fun j hj => by
      by_cases hji : j = i
      · subst hji
        simp [rd, List.getD_eq_getElem?_getD, List.getElem?_set, hx]
        rw [if_pos (by omega)]
        rfl
      · have := hm j (by omega)
        have hij : ¬ i = j := fun h => hji h.symm
        simpa [rd, List.getD_eq_getElem?_getD, List.getElem?_set, hij] using this)
    refine ⟨ys, Ev.step (fun k => ?_) he, hy, hq⟩
    simp only [laws_markByteS.l0]
    rw [if_pos (by omega), if_pos (by omega), wrap_id (x := ((1 + i : Nat) : Int) + 1) (by omega) (by omega), wrap_id (x := (i : Int) + 1) (by omega) (by omega)]
    rfl
theorem held_loop (n : Nat) (hn : n ≤ 1000) (ys : List Int) (hy : ys.length = n) (hq : ∀ j, j < n → rd ys (j : Int) = ((1 + j : Nat) : Int) % 256) : ∀ (d i : Nat), i + d = n →
    Ev (fun k => laws_heldByteS.l0 k ys ((1 + i : Nat) : Int) (i : Int)) ((1 + n : Nat) : Int) := by
  intro d
  induction d with
  | zero =>
    intro i hi
    obtain rfl : i = n := by omega
    refine Ev.step (f := fun _ => some ((1 + i : Nat) : Int)) (fun k => ?_) (Ev.now _)
    simp only [laws_heldByteS.l0]
    rw [if_neg (by omega)]
  | succ d ih =>
    intro i hi
    refine Ev.step (fun k => ?_) (ih (i + 1) (by omega))
    simp only [laws_heldByteS.l0]
    rw [if_pos (by omega), if_pos (by omega), if_pos (hq i (by omega)), wrap_id (x := ((1 + i : Nat) : Int) + 1) (by omega) (by omega), wrap_id (x := (i : Int) + 1) (by omega) (by omega)]
    rfl
theorem marks (xs : List Int) (hx : xs.length ≤ 1000) : ∃ ys, Ev (fun k => laws_markByteS.f k xs 1) (((1 + xs.length : Nat) : Int), ys) ∧ Ev (fun k => laws_heldByteS.f k ys 1) ((1 + xs.length : Nat) : Int) := by
  obtain ⟨ys, he, hy, hq⟩ := mark_loop xs.length hx xs.length 0 xs (by omega) rfl (fun j hj => absurd hj (Nat.not_lt_zero _))
  exact ⟨ys, he, held_loop xs.length hx ys hy hq xs.length 0 (by omega)⟩

theorem mark_text_loop : ∀ (b : Nat) (x : Int) (t : ByteArray), x.toNat ≤ b → t.size + b ≤ 100000000 → ∃ r, Ev (fun k => laws_markText.l0 k x t) r := by
  intro b
  induction b with
  | zero =>
    intro x t hx ht
    refine ⟨_, Ev.step (f := fun _ => some ((⟨#[109]⟩ : ByteArray) ++ t)) (fun k => ?_) (Ev.now _)⟩
    simp only [laws_markText.l0]
    rw [if_neg (by omega), if_pos (by omega)]
  | succ b ih =>
    intro x t hx ht
    by_cases h0 : x > 0
    · have hd : Int.tdiv x 10 = x / 10 := Int.tdiv_eq_ediv_of_nonneg (by omega)
      have hz : (strOfNums [(wrap64 (48 + (Int.tmod x 10))) % 256]).size = 1 := by simp [strOfNums, ByteArray.size]
      obtain ⟨r, hr⟩ := ih (x / 10) (strOfNums [(wrap64 (48 + (Int.tmod x 10))) % 256] ++ t) (by omega) (by rw [ByteArray.size_append, hz]; omega)
      refine ⟨r, Ev.step (fun k => ?_) hr⟩
      simp only [laws_markText.l0]
      rw [if_pos h0, Option.bind_some, hz, if_pos (by omega), hd, wrap_id (x := x / 10) (by omega) (by omega)]
    · refine ⟨_, Ev.step (f := fun _ => some ((⟨#[109]⟩ : ByteArray) ++ t)) (fun k => ?_) (Ev.now _)⟩
      simp only [laws_markText.l0]
      rw [if_neg h0, if_pos (by omega)]
theorem mark_text (x : Int) (hx : x ≤ 10000000) : ∃ r, Ev (fun k => laws_markText.f k x) r := by
  unfold laws_markText.f
  by_cases h : x ≤ 0
  · exact ⟨_, Ev.congr (fun k => if_pos h) (Ev.now _)⟩
  · obtain ⟨r, hr⟩ := mark_text_loop 10000000 x (⟨#[]⟩ : ByteArray) (by omega) (by simp [ByteArray.size])
    exact ⟨r, Ev.congr (fun k => if_neg h) hr⟩
theorem mark_values_loop (n : Nat) (hn : n ≤ 1048576) : ∀ (d i : Nat) (xs : List S39) (a : Int), i + d = n → xs.length = n → 0 ≤ a → a ≤ 1 + 3 * i →
    ∃ r, Ev (fun k => laws_markValueS.l0 k xs a (i : Int)) r ∧ 0 ≤ r.1 := by
  intro d
  induction d with
  | zero =>
    intro i xs a hi hx h0 h1
    refine ⟨(a, xs), Ev.step (f := fun _ => some (a, xs)) (fun k => ?_) (Ev.now _), h0⟩
    simp only [laws_markValueS.l0]
    rw [if_neg (by omega)]
  | succ d ih =>
    intro i xs a hi hx h0 h1
    have w1_ : wrap64 (a + 1) = a + 1 := wrap_id (by omega) (by omega)
    have w2_ : wrap64 (a + 1 + 1) = a + 1 + 1 := wrap_id (by omega) (by omega)
    have w3_ : wrap64 (a + 1 + 1 + 1) = a + 1 + 1 + 1 := wrap_id (by omega) (by omega)
    obtain ⟨t, ht⟩ := mark_text (a + 1 + 1) (by omega)
    obtain ⟨y1, hy1⟩ : ∃ y1, y1 = xs.set i (⟨a, (rd_T39 xs (i : Int)).f1, (rd_T39 xs (i : Int)).f2⟩ : S39) := ⟨_, rfl⟩
    obtain ⟨y2, hy2⟩ : ∃ y2, y2 = y1.set i (⟨(rd_T39 y1 (i : Int)).f0, a + 1, (rd_T39 y1 (i : Int)).f2⟩ : S39) := ⟨_, rfl⟩
    obtain ⟨r, hr, hb⟩ := ih (i + 1) (y2.set i (⟨(rd_T39 y2 (i : Int)).f0, (rd_T39 y2 (i : Int)).f1, t⟩ : S39)) (a + 1 + 1 + 1) (by omega) (by rw [List.length_set, hy2, List.length_set, hy1, List.length_set]; exact hx) (by omega) (by omega)
    refine ⟨r, Ev.step (f := fun k => (laws_markText.f k (a + 1 + 1)).bind fun t => laws_markValueS.l0 k (y2.set i (⟨(rd_T39 y2 (i : Int)).f0, (rd_T39 y2 (i : Int)).f1, t⟩ : S39)) (a + 1 + 1 + 1) ((i + 1 : Nat) : Int)) (fun k => ?_) (Ev.bind ht hr), hb⟩
    simp only [laws_markValueS.l0, Int.toNat_natCast, w1_, w2_, w3_, Option.bind_some]
    rw [if_pos (by omega), if_pos (by omega), ← hy1, ← hy2, wrap_id (x := (i : Int) + 1) (by omega) (by omega)]
    rfl
theorem mark_values (xs : List S39) (hn : xs.length ≤ 1048576) : ∃ r, Ev (fun k => laws_markValueS.f k xs 1) r ∧ 0 ≤ r.1 :=
  mark_values_loop xs.length hn xs.length 0 xs 1 (by omega) rfl (by omega) (by omega)

theorem FnExactKeyBytes : Pure := by
  intro l hl
  have wl : ∀ x ∈ l, x.f2.size ≤ 9223372036854775807 := fun x hx => by
    have := (hl.2 x hx).2.2
    simpa [Wfstr, maxLen] using this
  have ll : l.length ≤ 9223372036854775807 := by simpa [maxLen] using hl.1
  refine Ev.rounds ?_
  unfold laws_FnExactKeyBytes.f
  obtain ⟨r, h1, h2, h3⟩ := sizes l ll wl 1048576 (by omega) (by omega)
  refine Ev.bind h1 ?_
  by_cases hr : r < 0
  · exact Ev.congr (fun k => if_pos hr) (Ev.now _)
  refine Ev.congr (fun k => if_neg hr) ?_
  have hlen : l.length ≤ 1048576 := h3 (by omega)
  have c1 := copies l (by omega)
  have al := ans_length (l.map conv)
  have q1 := eqb_same (ans (l.map conv)).1 (by omega)
  have e1 := eq_same (l.map conv) (by rw [List.length_map]; omega)
  obtain ⟨m, hm, hm0⟩ := mark_values (l.map conv) (by rw [List.length_map]; omega)
  obtain ⟨ys, hy, hh⟩ := marks (ans (l.map conv)).1 al
  refine Ev.bind c1 (Ev.bind (ans_spec _) (Ev.bind c1 (Ev.bind (ans_impl _) (Ev.bind q1 ?_))))
  refine Ev.congr (fun k => if_pos rfl) ?_
  refine Ev.step (fun k => by simp only [laws_FnExactKeyBytes.j0, bne_self_eq_false, Bool.false_eq_true, if_false]; rfl) ?_
  refine Ev.bind c1 (Ev.bind e1 (Ev.congr (fun k => if_pos rfl) (Ev.bind hm (Ev.congr (fun k => if_neg (by omega)) (Ev.bind q1 (Ev.congr (fun k => if_pos rfl) ?_))))))
  refine Ev.step (fun k => by simp only [laws_FnExactKeyBytes.j1, Bool.false_eq_true, if_false]; rfl) ?_
  refine Ev.bind hy (Ev.bind hh (Ev.congr (fun k => if_neg (by omega)) (Ev.congr (fun k => if_pos rfl) (Ev.bind c1 (Ev.bind (ans_impl _) (Ev.bind q1 (Ev.congr (fun k => if_pos rfl) ?_)))))))
  refine Ev.step (fun k => by simp only [laws_FnExactKeyBytes.j2, bne_self_eq_false, Bool.false_eq_true, if_false]; rfl) ?_
  exact Ev.bind hh (Ev.congr (fun k => if_neg (by omega)) (Ev.congr (fun k => if_pos rfl) (Ev.now _)))

end Go.Proofs.YtnhfhafbdbmkpaaDoor.fnExactKeyBytes.Pure
