/- A value's literal, on both sides; plain lemmas. -/
import Derived.Test.YtnhfhafbdbmkpaaDoorXV7
import Derived.Test.YtnhfhafbdbmkpaaDoorAid
import Derived.Lib.ReplaceLaws
import Derived.Lib.Replace
import Derived.Lib.ItoaNum
import Derived.Laws.BitsLemmas
namespace Go.Proofs.YtnhfhafbdbmkpaaDoor.TextV
open Go Go.RowKit Go.Proofs.YtnhfhafbdbmkpaaDoor.XV Go.Proofs.YtnhfhafbdbmkpaaDoorW.PrintWords Go.Proofs.YtnhfhafbdbmkpaaDoorW.PrintLast Go.Proofs.YtnhfhafbdbmkpaaDoorW.PrintMore Go.Proofs.YtnhfhafbdbmkpaaDoor.Aid
set_option linter.unusedVariables false
set_option linter.unusedSimpArgs false

/-! Texts and lists of bytes -/
theorem bytesOf_range (s : ByteArray) : ∀ x ∈ bytesOf s, 0 ≤ x ∧ x < 256 := by
  intro x hx
  unfold bytesOf at hx
  obtain ⟨b, _, rfl⟩ := List.mem_map.1 hx
  have := b.toNat_lt
  omega
theorem strOfNums_bytesOf (s : ByteArray) : strOfNums (bytesOf s) = s := by
  unfold bytesOf strOfNums
  simp only [List.map_map]
  have : List.map ((fun n : Int => UInt8.ofNat n.toNat) ∘ fun b : UInt8 => (b.toNat : Int)) s.data.toList = s.data.toList := by
    refine (List.map_congr_left (g := id) fun x hm => ?_).trans (List.map_id _)
    simp [Function.comp]
  rw [this]
theorem strOfNums_append (xs ys : List Int) : strOfNums (xs ++ ys) = strOfNums xs ++ strOfNums ys := by
  apply ByteArray.ext
  rw [ByteArray.data_append]
  simp [strOfNums]
theorem strOfNums_size (xs : List Int) : (strOfNums xs).size = xs.length := by
  simp [strOfNums, ByteArray.size]
theorem drop_bt (t : ByteArray) (i : Nat) (h : i < t.size) : (bytesOf t).drop i = bt t (i : Int) :: (bytesOf t).drop (i + 1) := by
  have hl : i < (bytesOf t).length := by rw [bytesOf_length]; exact h
  rw [List.drop_eq_getElem_cons hl, ← rd_bytesOf]
  congr 1
  simp [rd, List.getD_eq_getElem?_getD, List.getElem?_eq_getElem hl]

/-! Numbers -/
theorem dec_step (u : Nat) (h : ¬ u < 10) : Lib.decDigits u = Lib.decDigits (u / 10) ++ [UInt8.ofNat (48 + u % 10)] := by
  rw [Lib.decDigits, dif_neg h]
theorem dec_length : ∀ (k u : Nat), u < 10 ^ (k + 1) → (Lib.decDigits u).length ≤ k + 1
  | 0, u, h => by rw [Lib.decDigits_one (by simpa using h)]; simp
  | k + 1, u, h => by
    by_cases h10 : u < 10
    · rw [Lib.decDigits_one h10]
      simp
    · rw [dec_step u h10, List.length_append]
      have := dec_length k (u / 10) (by rw [Nat.pow_succ] at h; omega)
      simp
      omega
theorem dec_short {u : Nat} (h : u ≤ 9223372036854775808) : (Lib.decDigits u).length ≤ 19 := dec_length 18 u (Nat.lt_of_le_of_lt h (by decide))
theorem itoa_short (n : Int) (h0 : -9223372036854775808 ≤ n) (h1 : n ≤ 9223372036854775807) : (Lib.itoa n).length ≤ 20 := by
  unfold Lib.itoa
  split
  · have := dec_short (u := n.natAbs) (by omega)
    simp
    omega
  · have := dec_short (u := n.toNat) (by omega)
    omega

/-! A text's bytes, one of them put for another -/
def esc (o : Int) (new : List Int) (xs : List Int) : List Int := xs.flatMap fun x => if x = o then new else [x]
theorem rep_miss (o c : UInt8) (new : List UInt8) (h : c ≠ o) (r : List UInt8) : ∀ k, k ≤ r.count o → Lib.replaceK [o] new k (c :: r) = c :: Lib.replaceK [o] new k r
  | 0, _ => rfl
  | k + 1, hk => by
    have hc : 0 < Lib.count r [o] := by rw [Lib.count_one]; omega
    obtain ⟨i, hi⟩ := Lib.index_of_count hc
    have hi' : Lib.index (c :: r) [o] = ((i + 1 : Nat) : Int) := by
      rw [Lib.index_one] at hi ⊢
      unfold Lib.indexByte
      rw [if_neg (by simpa using h), hi, if_neg (by simp)]
      omega
    rw [Lib.replaceK_hit [o] new k (c :: r) (i + 1) hi', Lib.replaceK_hit [o] new k r i hi]
    simp
theorem rep_one (o : UInt8) (new : List UInt8) : ∀ s : List UInt8, Lib.replaceK [o] new (s.count o) s = s.flatMap fun c => if c = o then new else [c]
  | [] => rfl
  | c :: r => by
    by_cases h : c = o
    · subst h
      have h0 : Lib.index (c :: r) [c] = ((0 : Nat) : Int) := by
        rw [Lib.index_one]
        unfold Lib.indexByte
        rw [if_pos (by simp)]
        rfl
      rw [List.count_cons_self, Lib.replaceK_hit [c] new (r.count c) (c :: r) 0 h0]
      simp only [List.take_zero, List.nil_append, List.length_cons, List.length_nil, List.drop_succ_cons, List.drop_zero, List.flatMap_cons, if_true, Nat.zero_add]
      rw [rep_one c new r]
    · have hc : (c :: r).count o = r.count o := by rw [List.count_cons_of_ne h]
      rw [hc, rep_miss o c new h r _ (Nat.le_refl _), rep_one o new r, List.flatMap_cons, if_neg h]
      rfl
theorem esc_length (o : Int) (new xs : List Int) (hn : new.length ≤ 2) : (esc o new xs).length ≤ 2 * xs.length := by
  induction xs with
  | nil => simp [esc]
  | cons x xs ih =>
    have h : esc o new (x :: xs) = (if x = o then new else [x]) ++ esc o new xs := rfl
    rw [h, List.length_append, List.length_cons]
    have : (if x = o then new else [x] : List Int).length ≤ 2 := by
      split
      · exact hn
      · simp
    omega
theorem replaced (t : ByteArray) (ht : t.size ≤ 60) : ∃ r, strings_ReplaceAll.f t ⟨#[39]⟩ ⟨#[39, 39]⟩ = some r ∧ bytesOf r = esc 39 [39, 39] (bytesOf t) := by
  unfold strings_ReplaceAll.f
  have hc := Lib.countB_mul_le (⟨#[39]⟩ : ByteArray) (by decide) t.size t (Nat.le_refl _)
  have h1 : (⟨#[39]⟩ : ByteArray).size = 1 := rfl
  have h2 : (⟨#[39, 39]⟩ : ByteArray).size = 2 := rfl
  rw [h1] at hc
  rw [if_pos ⟨by decide, by omega, by rw [h2]; omega⟩]
  refine ⟨_, rfl, ?_⟩
  have hr : Lib.replaceAll t.data.toList (⟨#[39]⟩ : ByteArray).data.toList (⟨#[39, 39]⟩ : ByteArray).data.toList = t.data.toList.flatMap fun c => if c = 39 then [39, 39] else [c] := by
    have hn : Lib.replaceNum t.data.toList [39] (-1) = t.data.toList.count 39 := by
      unfold Lib.replaceNum
      rw [if_pos (.inl (by decide)), Lib.count_one]
    show Lib.replace t.data.toList [39] [39, 39] (-1) = _
    unfold Lib.replace
    rw [if_neg (by decide), hn, rep_one]
  rw [hr]
  unfold bytesOf esc
  simp only [List.map_flatMap, List.flatMap_map]
  congr 1
  funext c
  by_cases h : c = 39
  · subst h
    rfl
  · have : ¬ (c.toNat : Int) = 39 := fun e => h (UInt8.toNat_inj.1 (by show c.toNat = 39; omega))
    rw [if_neg h, if_neg this]
    rfl
/-- A text between two quotes. -/
def quote (t : ByteArray) : ByteArray := strOfNums ([39] ++ esc 39 [39, 39] (bytesOf t) ++ [39])
theorem q1_eq : (⟨#[39]⟩ : ByteArray) = strOfNums [39] := by decide +kernel
theorem quote_size (t : ByteArray) (ht : t.size ≤ 60) : (quote t).size ≤ 122 := by
  unfold quote
  have := esc_length 39 [39, 39] (bytesOf t) (by simp)
  rw [bytesOf_length] at this
  rw [strOfNums_size]
  simp
  omega
theorem impl_quote (t : ByteArray) (ht : t.size ≤ 60) : impl_quoted.f t = some (quote t) := by
  unfold impl_quoted.f
  obtain ⟨r, hr, hb⟩ := replaced t ht
  have hz : r.size ≤ 120 := by
    have h := esc_length 39 [39, 39] (bytesOf t) (by simp)
    rw [← hb, bytesOf_length, bytesOf_length] at h
    omega
  have h1 : (⟨#[39]⟩ : ByteArray).size = 1 := rfl
  rw [hr, Option.bind_some, if_pos (by omega), if_pos (by rw [ByteArray.size_append, h1]; omega)]
  unfold quote
  rw [strOfNums_append, strOfNums_append, ← hb, strOfNums_bytesOf, ← q1_eq]
/-! Two digits for each byte -/
def digits : ByteArray := ⟨#[48, 49, 50, 51, 52, 53, 54, 55, 56, 57, 97, 98, 99, 100, 101, 102]⟩
def two (x : Int) : List Int := [bt digits (x / 16), bt digits (x % 16)]
def hex (xs : List Int) : List Int := xs.flatMap two
theorem hex_length (xs : List Int) : (hex xs).length = 2 * xs.length := by
  induction xs with
  | nil => rfl
  | cons x xs ih =>
    have h : hex (x :: xs) = two x ++ hex xs := rfl
    rw [h, List.length_append, ih]
    simp [two]
    omega
theorem and15 (x : Int) (h0 : 0 ≤ x) (h1 : x < 256) : Go.bits .and .u8 x 15 = x % 16 := by
  have h := bits_mask .u8 8 (by decide) (fun n h0 h1 => by rw [IntKind.wrap_u8]; omega) 4 (by decide) x (by omega) (by omega)
  simpa using h
theorem impl_hex (t : ByteArray) (ht : t.size ≤ 1000000) : ∀ (d i : Nat) (acc : List Int), i + d = t.size → acc.length = 2 * i →
    Ev (fun k => impl_hexText.l0 k t acc (t.size : Int) (i : Int)) (strOfNums (acc ++ hex ((bytesOf t).drop i))) := by
  intro d
  induction d with
  | zero =>
    intro i acc hi hacc
    have hd : (bytesOf t).drop i = [] := List.drop_eq_nil_of_le (by rw [bytesOf_length]; omega)
    refine Ev.step (f := fun _ => some (strOfNums (acc ++ hex ((bytesOf t).drop i)))) (fun k => ?_) (Ev.now _)
    simp only [impl_hexText.l0]
    rw [if_neg (by omega), hd]
    simp [hex]
  | succ d ih =>
    intro i acc hi hacc
    have hlt : i < t.size := by omega
    have hw : wrap64 ((i : Int) + 1) = ((i + 1 : Nat) : Int) := by
      rw [wrap_id (by omega) (by omega)]
      omega
    have hr := bt_range t (i : Int)
    obtain ⟨x, hx⟩ : ∃ x, x = bt t (i : Int) := ⟨_, rfl⟩
    have hm : Go.bits .and .u8 x 15 = x % 16 := and15 x (by omega) (by omega)
    have hn := ih (i + 1) (acc ++ two x) (by omega) (by simp [two]; omega)
    have e : acc ++ two x ++ hex ((bytesOf t).drop (i + 1)) = acc ++ hex ((bytesOf t).drop i) := by
      rw [drop_bt t i hlt, ← hx]
      show _ = acc ++ (two x ++ hex ((bytesOf t).drop (i + 1)))
      rw [List.append_assoc]
    rw [← e]
    refine Ev.step (fun k => ?_) hn
    simp only [impl_hexText.l0]
    rw [if_pos (by omega), if_pos (by omega), if_pos (by omega), ← hx, hm, if_pos (by omega), if_pos (by omega), if_pos (by omega), if_pos (by omega), Option.bind_some, if_pos (by simp; omega), hw]
    rfl
def hexed (t : ByteArray) : ByteArray := ((⟨#[120, 39]⟩ : ByteArray) ++ strOfNums (hex (bytesOf t))) ++ (⟨#[39]⟩ : ByteArray)
theorem hexed_size (t : ByteArray) : (hexed t).size = 3 + 2 * t.size := by
  unfold hexed
  rw [ByteArray.size_append, ByteArray.size_append, strOfNums_size, hex_length, bytesOf_length]
  show 2 + 2 * t.size + 1 = _
  omega

/-! A value's literal -/
theorem ok_cases (k n : Int) (t : ByteArray) (h : impl_ValueOK.f k n t = some true) : k = 0 ∨ (k = 1 ∧ 0 ≤ n ∧ n ≤ 1) ∨ k = 2 ∨ ((k = 3 ∨ k = 4) ∧ t.size ≤ 60) := by
  unfold impl_ValueOK.f impl_hasText.f impl_within.f at h
  by_cases h0 : k = 0
  · exact .inl h0
  by_cases h1 : k = 1
  · refine .inr (.inl ⟨h1, ?_⟩)
    rw [if_neg h0, if_pos h1] at h
    by_cases hn : n ≥ 0
    · rw [if_pos hn] at h
      by_cases hn1 : n ≤ 1
      · exact ⟨hn, hn1⟩
      · simp [hn1] at h
    · rw [if_neg hn] at h
      simp at h
  by_cases h2 : k = 2
  · exact .inr (.inr (.inl h2))
  rw [if_neg h0, if_neg h1, if_neg h2] at h
  refine .inr (.inr (.inr ?_))
  by_cases h3 : k = 3
  · by_cases hn : n = 0
    · simp [h3, hn] at h
      exact ⟨.inl h3, by omega⟩
    · simp [h3, hn] at h
  · by_cases h4 : k = 4
    · by_cases hn : n = 0
      · simp [h4, hn] at h
        exact ⟨.inr h4, by omega⟩
      · simp [h4, hn] at h
    · simp [h3, h4] at h
def lit (k n : Int) (t : ByteArray) : ByteArray := if k = 0 then ⟨#[110, 117, 108, 108]⟩ else if k = 1 then (if n = 1 then ⟨#[116, 114, 117, 101]⟩ else ⟨#[102, 97, 108, 115, 101]⟩) else if k = 2 then ⟨(Lib.itoa n).toArray⟩ else if k = 3 then quote t else hexed t
theorem lit_size (k n : Int) (t : ByteArray) (h0 : -9223372036854775808 ≤ n) (h1 : n ≤ 9223372036854775807) (h : impl_ValueOK.f k n t = some true) : (lit k n t).size ≤ 123 := by
  unfold lit
  rcases ok_cases k n t h with rfl | ⟨rfl, a, b⟩ | rfl | ⟨rfl | rfl, c⟩
  · rw [if_pos rfl]
    decide
  · rw [if_neg (by decide), if_pos rfl]
    split <;> decide
  · rw [if_neg (by decide), if_neg (by decide), if_pos rfl]
    have := itoa_short n h0 h1
    have : (⟨(Lib.itoa n).toArray⟩ : ByteArray).size ≤ 20 := by simpa [ByteArray.size] using this
    omega
  · rw [if_neg (by decide), if_neg (by decide), if_neg (by decide), if_pos rfl]
    have := quote_size t c
    omega
  · rw [if_neg (by decide), if_neg (by decide), if_neg (by decide), if_neg (by decide), hexed_size]
    omega
theorem impl_lit (k n : Int) (t : ByteArray) (h0 : -9223372036854775808 ≤ n) (h1 : n ≤ 9223372036854775807) (h : impl_ValueOK.f k n t = some true) : Ev (fun r => impl_valueText.f r k n t) (lit k n t) := by
  unfold impl_valueText.f lit
  rcases ok_cases k n t h with rfl | ⟨rfl, a, b⟩ | rfl | ⟨rfl | rfl, c⟩
  · exact Ev.now _
  · have hn : n = 0 ∨ n = 1 := by omega
    rcases hn with rfl | rfl <;> exact Ev.now _
  · refine Ev.congr (fun _ => if_neg (by decide)) (Ev.congr (fun _ => if_neg (by decide)) (Ev.congr (fun _ => if_pos rfl) ?_))
    have : impl_formatInt.f n = some ⟨(Lib.itoa n).toArray⟩ := by
      unfold impl_formatInt.f strconv_Itoa.f
      rw [if_pos ⟨h0, h1⟩]
      rfl
    exact Ev.bind (Ev.congr (fun _ => this) (Ev.now _)) (Ev.now _)
  · refine Ev.congr (fun _ => if_neg (by decide)) (Ev.congr (fun _ => if_neg (by decide)) (Ev.congr (fun _ => if_neg (by decide)) (Ev.congr (fun _ => if_pos rfl) ?_)))
    exact Ev.bind (Ev.congr (fun _ => impl_quote t c) (Ev.now _)) (Ev.now _)
  · refine Ev.congr (fun _ => if_neg (by decide)) (Ev.congr (fun _ => if_neg (by decide)) (Ev.congr (fun _ => if_neg (by decide)) (Ev.congr (fun _ => if_neg (by decide)) ?_)))
    have hh := impl_hex t (by omega) t.size 0 [] (by omega) rfl
    rw [List.drop_zero, List.nil_append] at hh
    have hz : (strOfNums (hex (bytesOf t))).size = 2 * t.size := by rw [strOfNums_size, hex_length, bytesOf_length]
    have hw : wrap64 (2 * (t.size : Int)) = 2 * (t.size : Int) := wrap_id (by omega) (by omega)
    have hf : Ev (fun r => impl_hexText.f r t) (strOfNums (hex (bytesOf t))) := by
      unfold impl_hexText.f
      rw [hw]
      exact Ev.congr (fun _ => if_pos (by omega)) (Ev.congr (fun _ => if_pos (by omega)) hh)
    refine Ev.bind hf (Ev.congr (fun _ => if_pos (by omega)) (Ev.congr (fun _ => if_pos ?_) (Ev.now _)))
    rw [ByteArray.size_append, hz]
    show 2 + 2 * t.size + 1 ≤ _
    omega
end Go.Proofs.YtnhfhafbdbmkpaaDoor.TextV
