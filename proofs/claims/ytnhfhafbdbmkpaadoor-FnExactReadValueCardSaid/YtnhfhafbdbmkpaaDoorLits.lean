/- Literals read: quoted texts, hexadecimal digits, numbers; plain lemmas on lists, no program in sight. -/
import Derived.Lib.AtoiAll
import Derived.Lib.AtoiAllCases
import Derived.Lib.ItoaMem
import Derived.Lib.ItoaNum
import Derived.Lib.Replace
import Derived.Lib.ReplaceLaws
import Derived.Lib.SplitLaws
import Derived.Lib.Strings
namespace Go.Proofs.YtnhfhafbdbmkpaaDoor.Lits
set_option linter.unusedVariables false
open Go
/-! A quoted text, read -/
def esc (xs : List Int) : List Int := xs.flatMap fun x => if x = 39 then [39, 39] else [x]
theorem esc_cons (x : Int) (xs : List Int) : esc (x :: xs) = (if x = 39 then [39, 39] else [x]) ++ esc xs := rfl
def scan : List Int → Option (List Int × Nat)
  | [] => none
  | x :: r => if x = 39 then (match r with
      | [] => some ([], 1)
      | y :: r' => if y = 39 then (scan r').map fun p => (39 :: p.1, p.2 + 2) else some ([], 1))
    else (scan r).map fun p => (x :: p.1, p.2 + 1)
theorem scan_esc : ∀ s : List Int, scan (esc s ++ [39]) = some (s, (esc s).length + 1)
  | [] => rfl
  | x :: s => by
    rw [esc_cons]
    by_cases h : x = 39
    · rw [if_pos h]
      simp only [List.cons_append, List.nil_append]
      unfold scan
      rw [if_pos rfl]
      simp only [if_true]
      rw [scan_esc s]
      simp [h]
    · rw [if_neg h]
      simp only [List.cons_append, List.nil_append]
      unfold scan
      rw [if_neg h, scan_esc s]
      simp
theorem scan_len : ∀ (n : Nat) (ys : List Int), ys.length ≤ n → ∀ (s : List Int) (c : Nat), scan ys = some (s, c) → c ≤ ys.length ∧ (c = ys.length → ys = esc s ++ [39])
  | 0, ys, hn, s, c, h => by
    obtain rfl := List.eq_nil_of_length_eq_zero (Nat.le_zero.1 hn)
    simp [scan] at h
  | n + 1, [], hn, s, c, h => by simp [scan] at h
  | n + 1, x :: r, hn, s, c, h => by
    have hr : r.length ≤ n := by simpa using hn
    unfold scan at h
    by_cases hx : x = 39
    · rw [if_pos hx] at h
      cases r with
      | nil =>
        simp only [Option.some.injEq, Prod.mk.injEq] at h
        obtain ⟨rfl, rfl⟩ := h
        exact ⟨by simp, fun _ => by simp [esc, hx]⟩
      | cons y r' =>
        simp only at h
        by_cases hy : y = 39
        · rw [if_pos hy] at h
          obtain ⟨⟨s', c'⟩, hs, he⟩ := Option.map_eq_some_iff.1 h
          simp only [Prod.mk.injEq] at he
          obtain ⟨rfl, rfl⟩ := he
          obtain ⟨h1, h2⟩ := scan_len n r' (by simp at hr; omega) s' c' hs
          refine ⟨by simp; omega, fun hc => ?_⟩
          have := h2 (by simp at hc; omega)
          rw [esc_cons, if_pos rfl, hx, hy]
          simpa using this
        · rw [if_neg hy] at h
          simp only [Option.some.injEq, Prod.mk.injEq] at h
          obtain ⟨rfl, rfl⟩ := h
          exact ⟨by simp, fun hc => by simp at hc⟩
    · rw [if_neg hx] at h
      obtain ⟨⟨s', c'⟩, hs, he⟩ := Option.map_eq_some_iff.1 h
      simp only [Prod.mk.injEq] at he
      obtain ⟨rfl, rfl⟩ := he
      obtain ⟨h1, h2⟩ := scan_len n r hr s' c' hs
      refine ⟨by simp; omega, fun hc => ?_⟩
      have := h2 (by simp at hc; omega)
      rw [esc_cons, if_neg hx]
      simpa using this

/-! Hexadecimal digits, read -/
def nib (x : Int) : Option Int := if 48 ≤ x ∧ x ≤ 57 then some (x - 48) else if 97 ≤ x ∧ x ≤ 102 then some (x - 87) else none
def H (j : Int) : Int := if j < 10 then 48 + j else 87 + j
theorem nib_H (j : Int) (h0 : 0 ≤ j) (h1 : j < 16) : nib (H j) = some j := by
  unfold nib H
  split
  · rw [if_pos (by omega)]
    congr 1
    omega
  · rw [if_neg (by omega), if_pos (by omega)]
    congr 1
    omega
theorem H_nib (x j : Int) (h : nib x = some j) : 0 ≤ j ∧ j < 16 ∧ H j = x := by
  unfold nib at h
  split at h
  · have := Option.some.inj h
    refine ⟨by omega, by omega, ?_⟩
    unfold H
    rw [if_pos (by omega)]
    omega
  · split at h
    · have := Option.some.inj h
      refine ⟨by omega, by omega, ?_⟩
      unfold H
      rw [if_neg (by omega)]
      omega
    · cases h
def unh : List Int → Option (List Int)
  | [] => some []
  | [_] => none
  | x :: y :: r => (nib x).bind fun a => (nib y).bind fun b => (unh r).map fun l => (16 * a + b) :: l
def hexH (xs : List Int) : List Int := xs.flatMap fun x => [H (x / 16), H (x % 16)]
theorem unh_hex : ∀ b : List Int, (∀ x ∈ b, 0 ≤ x ∧ x < 256) → unh (hexH b) = some b
  | [], _ => rfl
  | x :: b, hb => by
    have hx := hb x (by simp)
    have e : hexH (x :: b) = H (x / 16) :: H (x % 16) :: hexH b := rfl
    rw [e]
    unfold unh
    rw [nib_H (x / 16) (by omega) (by omega), nib_H (x % 16) (by omega) (by omega), unh_hex b (fun y hy => hb y (by simp [hy]))]
    simp
    omega
theorem hex_unh : ∀ (n : Nat) (m : List Int), m.length ≤ n → ∀ b, unh m = some b → hexH b = m ∧ ∀ x ∈ b, 0 ≤ x ∧ x < 256
  | 0, m, hm, b, h => by
    obtain rfl := List.eq_nil_of_length_eq_zero (Nat.le_zero.1 hm)
    obtain rfl := Option.some.inj h
    exact ⟨rfl, fun x hx => by simp at hx⟩
  | n + 1, [], hm, b, h => by
    obtain rfl := Option.some.inj h
    exact ⟨rfl, fun x hx => by simp at hx⟩
  | n + 1, [x], hm, b, h => by simp [unh] at h
  | n + 1, x :: y :: r, hm, b, h => by
    unfold unh at h
    simp only [Option.bind_eq_some_iff, Option.map_eq_some_iff] at h
    obtain ⟨a, ha, c, hc, l, hl, rfl⟩ := h
    obtain ⟨a0, a1, ax⟩ := H_nib x a ha
    obtain ⟨c0, c1, cx⟩ := H_nib y c hc
    obtain ⟨h1, h2⟩ := hex_unh n r (by simp at hm; omega) l hl
    refine ⟨?_, fun z hz => ?_⟩
    · show H ((16 * a + c) / 16) :: H ((16 * a + c) % 16) :: hexH l = _
      rw [show (16 * a + c) / 16 = a by omega, show (16 * a + c) % 16 = c by omega, ax, cx, h1]
    · rcases List.mem_cons.1 hz with rfl | hz
      · omega
      · exact h2 z hz
/-- A quote is no digit. -/
theorem unh_no39 : ∀ (n : Nat) (m : List Int), m.length ≤ n → ∀ b, unh m = some b → ∀ x ∈ m, x ≠ 39
  | 0, m, hm, b, h => by
    obtain rfl := List.eq_nil_of_length_eq_zero (Nat.le_zero.1 hm)
    intro x hx
    simp at hx
  | n + 1, [], hm, b, h => fun x hx => by simp at hx
  | n + 1, [x], hm, b, h => by simp [unh] at h
  | n + 1, x :: y :: r, hm, b, h => by
    unfold unh at h
    simp only [Option.bind_eq_some_iff, Option.map_eq_some_iff] at h
    obtain ⟨a, ha, c, hc, l, hl, rfl⟩ := h
    have i := unh_no39 n r (by simp at hm; omega) l hl
    intro z hz
    rcases List.mem_cons.1 hz with rfl | hz
    · rintro rfl
      simp [nib] at ha
    · rcases List.mem_cons.1 hz with rfl | hz
      · rintro rfl
        simp [nib] at hc
      · exact i z hz
theorem esc_plain : ∀ s : List Int, (∀ x ∈ s, x ≠ 39) → esc s = s
  | [], _ => rfl
  | x :: s, h => by
    rw [esc_cons, if_neg (h x (by simp)), esc_plain s (fun y hy => h y (by simp [hy]))]
    rfl

/-! A number's digits, read -/
def isD (c : UInt8) : Bool := decide (48 ≤ c.toNat ∧ c.toNat ≤ 57)
def F : Nat → List UInt8 → Nat
  | a, [] => a
  | a, c :: r => F (a * 10 + (c.toNat - 48)) r
theorem F_snoc : ∀ (xs : List UInt8) (a : Nat) (d : UInt8), F a (xs ++ [d]) = F a xs * 10 + (d.toNat - 48)
  | [], a, d => rfl
  | x :: xs, a, d => F_snoc xs _ d
theorem dstep (u : Nat) (h : ¬ u < 10) : Lib.decDigits u = Lib.decDigits (u / 10) ++ [UInt8.ofNat (48 + u % 10)] := by
  rw [Lib.decDigits, dif_neg h]
theorem of_toNat {k : Nat} (h : k < 10) : (UInt8.ofNat (48 + k)).toNat = 48 + k := by
  rw [UInt8.toNat_ofNat']
  omega
/-- What digits of a number spell. -/
theorem dec_spec : ∀ (b u : Nat), u ≤ b → F 0 (Lib.decDigits u) = u ∧ (Lib.decDigits u).all isD = true ∧ ∃ c r, Lib.decDigits u = c :: r ∧ (c.toNat = 48 → u = 0 ∧ r = [])
  | 0, u, h => by
    obtain rfl := Nat.le_zero.1 h
    rw [Lib.decDigits_one (by omega)]
    exact ⟨rfl, rfl, _, _, rfl, fun _ => ⟨rfl, rfl⟩⟩
  | b + 1, u, h => by
    by_cases h10 : u < 10
    · rw [Lib.decDigits_one h10]
      have ht := of_toNat h10
      refine ⟨?_, ?_, _, _, rfl, fun h48 => ?_⟩
      · show 0 * 10 + ((UInt8.ofNat (48 + u)).toNat - 48) = u
        rw [ht]
        omega
      · simp only [List.all_cons, List.all_nil, Bool.and_true, isD, decide_eq_true_eq]
        rw [ht]
        omega
      · rw [ht] at h48
        exact ⟨by omega, rfl⟩
    · obtain ⟨h1, h2, c, r, h3, h4⟩ := dec_spec b (u / 10) (by omega)
      have ht := of_toNat (show u % 10 < 10 by omega)
      rw [dstep u h10]
      refine ⟨?_, ?_, c, r ++ [UInt8.ofNat (48 + u % 10)], by rw [h3]; rfl, fun h48 => ?_⟩
      · rw [F_snoc, h1, ht]
        omega
      · rw [List.all_append, h2]
        simp only [List.all_cons, List.all_nil, Bool.and_true, Bool.true_and, isD, decide_eq_true_eq]
        rw [ht]
        omega
      · have := (h4 h48).1
        omega
theorem F_ge : ∀ (xs : List UInt8) (a : Nat), a ≤ F a xs
  | [], a => Nat.le_refl _
  | x :: xs, a => Nat.le_trans (by omega) (F_ge xs (a * 10 + (x.toNat - 48)))
theorem F_pos (c : UInt8) (r : List UInt8) (hd : isD c = true) (h48 : c.toNat ≠ 48) : 1 ≤ F 0 (c :: r) := by
  unfold isD at hd
  have := of_decide_eq_true hd
  exact Nat.le_trans (by omega) (F_ge r (0 * 10 + (c.toNat - 48)))
/-- Digits with no nought ahead are those of the number that they spell. -/
theorem dec_of : ∀ (n : Nat) (xs : List UInt8), xs.length = n → xs.all isD = true → ∀ c r, xs = c :: r → (c.toNat = 48 → r = []) → Lib.decDigits (F 0 xs) = xs := by
  intro n
  induction n with
  | zero =>
    intro xs hl ha c r he
    rw [he] at hl
    simp at hl
  | succ n ih =>
    intro xs hl ha c r he hz
    obtain ⟨ys, d, rfl⟩ : ∃ ys d, xs = ys ++ [d] := ⟨xs.dropLast, xs.getLast (by rw [he]; simp), (List.dropLast_concat_getLast _).symm⟩
    rw [List.all_append] at ha
    simp only [Bool.and_eq_true, List.all_cons, List.all_nil, Bool.and_true] at ha
    have hd : 48 ≤ d.toNat ∧ d.toNat ≤ 57 := of_decide_eq_true ha.2
    have hof : UInt8.ofNat (48 + (d.toNat - 48)) = d := by
      rw [show 48 + (d.toNat - 48) = d.toNat by omega, UInt8.ofNat_toNat]
    rw [F_snoc]
    cases ys with
    | nil =>
      show Lib.decDigits (0 * 10 + (d.toNat - 48)) = [d]
      rw [Nat.zero_mul, Nat.zero_add, Lib.decDigits_one (by omega), hof]
    | cons y ys' =>
      simp only [List.cons_append, List.cons.injEq] at he
      obtain ⟨rfl, he⟩ := he
      have hy : y.toNat ≠ 48 := fun h => by
        have := hz h
        rw [this] at he
        simp at he
      have hyd : isD y = true := by
        have := ha.1
        simp only [List.all_cons, Bool.and_eq_true] at this
        exact this.1
      have hp := F_pos y ys' hyd hy
      have i := ih (y :: ys') (by simpa using hl) ha.1 y ys' rfl (fun h => absurd h hy)
      rw [dstep _ (by omega), show (F 0 (y :: ys') * 10 + (d.toNat - 48)) / 10 = F 0 (y :: ys') by omega, show (F 0 (y :: ys') * 10 + (d.toNat - 48)) % 10 = d.toNat - 48 by omega, hof, i]
/-- Few digits overflow nothing. -/
theorem parse_few : ∀ (r : List UInt8) (a : Nat), r.length ≤ 18 → a < 10 ^ (18 - r.length) → r.all isD = true → Lib.parseUint10 a r = .ok (F a r) ∧ F a r < 10 ^ 18
  | [], a, hl, ha, _ => by
    rw [List.length_nil, Nat.sub_zero] at ha
    refine ⟨rfl, ?_⟩
    unfold F
    exact ha
  | c :: r, a, hl, ha, hd => by
    simp only [List.all_cons, Bool.and_eq_true] at hd
    have hc : 48 ≤ c.toNat ∧ c.toNat ≤ 57 := of_decide_eq_true hd.1
    have hlen : r.length ≤ 17 := by simpa using hl
    have hpow : 10 ^ (18 - r.length) = 10 ^ (18 - (c :: r).length) * 10 := by
      rw [← Nat.pow_succ]
      congr 1
      simp
      omega
    have hb : 10 ^ (18 - (c :: r).length) ≤ 10 ^ 17 := Nat.pow_le_pow_right (by omega) (by simp)
    have h17 : (10 : Nat) ^ 17 = 100000000000000000 := by decide
    have hn : a * 10 + (c.toNat - 48) < 10 ^ (18 - r.length) := by rw [hpow]; omega
    unfold Lib.parseUint10
    rw [if_pos hc, if_neg (by omega), if_neg (by omega)]
    exact parse_few r _ (by omega) hn hd.2

/-- What the reference reads of a number's text. -/
def numb (l : List UInt8) : Int × Bool :=
  match l with
  | [] => (0, false)
  | c :: r =>
    if c.toNat = 45 then (if r = [] ∨ 18 < r.length ∨ r.head?.map (·.toNat) = some 48 ∨ r.all isD = false then (0, false) else (-(F 0 r : Int), true))
    else if 18 < (c :: r).length ∨ (c.toNat = 48 ∧ r ≠ []) ∨ (c :: r).all isD = false then (0, false) else ((F 0 (c :: r) : Int), true)
theorem trim45 (l : List UInt8) : Lib.trimPrefix l [45] = match l with | [] => [] | c :: r => if c.toNat = 45 then r else c :: r := by
  unfold Lib.trimPrefix Lib.hasPrefix
  cases l with
  | nil => rfl
  | cons c r =>
    by_cases h : c.toNat = 45
    · have hc : c = 45 := UInt8.toNat_inj.1 h
      subst hc
      simp
    · have hc : ¬ (45 : UInt8) = c := fun e => h (by rw [← e]; rfl)
      simp [h, hc]
/-- What it tells of a text is what Atoi tells, and the text is that number's. -/
theorem numb_true (l : List UInt8) (v : Int) (h : numb l = (v, true)) : Lib.atoiAll l = .ok v ∧ Lib.itoa v = l ∧ (Lib.trimPrefix l [45]).length ≤ 18 := by
  have h18 : (10 : Nat) ^ 18 = 1000000000000000000 := by decide
  rw [trim45]
  unfold numb at h
  cases l with
  | nil => simp at h
  | cons c r =>
    simp only at h ⊢
    by_cases hc : c.toNat = 45
    · rw [if_pos hc] at h ⊢
      split at h
      · simp at h
      · rename_i hq
        simp only [not_or] at hq
        obtain ⟨q1, q2, q3, q4⟩ := hq
        have q4' : r.all isD = true := by simpa using q4
        obtain ⟨rfl, _⟩ := Prod.mk.inj h
        have hcc : c = 45 := UInt8.toNat_inj.1 hc
        subst hcc
        obtain ⟨p1, p2⟩ := parse_few r 0 (by omega) (Nat.pow_pos (by omega)) q4'
        obtain ⟨d, s, rfl⟩ : ∃ d s, r = d :: s := by
          cases r with
          | nil => exact absurd rfl q1
          | cons d s => exact ⟨d, s, rfl⟩
        have hd48 : d.toNat ≠ 48 := fun e => q3 (by simp [e])
        have hpos := F_pos d s (by simp only [List.all_cons, Bool.and_eq_true] at q4'; exact q4'.1) hd48
        refine ⟨?_, ?_, by omega⟩
        · rw [Lib.atoiAll_minus]
          unfold Lib.parseMag
          rw [if_neg q1, p1]
          simp only [Lib.signed]
          rw [if_neg (by omega)]
        · rw [Lib.itoa_neg _ hpos, dec_of _ (d :: s) rfl q4' d s rfl (fun e => absurd e hd48)]
    · rw [if_neg hc] at h ⊢
      split at h
      · simp at h
      · rename_i hq
        simp only [not_or, not_and] at hq
        obtain ⟨q2, q3, q4⟩ := hq
        have q4' : (c :: r).all isD = true := by simpa using q4
        obtain ⟨rfl, _⟩ := Prod.mk.inj h
        have hcd : 48 ≤ c.toNat ∧ c.toNat ≤ 57 := by
          simp only [List.all_cons, Bool.and_eq_true] at q4'
          exact of_decide_eq_true q4'.1
        obtain ⟨p1, p2⟩ := parse_few (c :: r) 0 (by omega) (Nat.pow_pos (by omega)) q4'
        refine ⟨?_, ?_, by omega⟩
        · rw [Lib.atoiAll_plain c r (by omega) hc]
          unfold Lib.parseMag
          rw [if_neg (by simp), p1]
          simp only [Lib.signless]
          rw [if_neg (by omega)]
        · rw [Lib.itoa_nonneg]
          exact dec_of _ (c :: r) rfl q4' c r rfl (fun e => Decidable.byContradiction (fun hr => q3 e hr))
/-- And the other way round: a number's own text is read. -/
theorem numb_itoa (v : Int) (h : (Lib.trimPrefix (Lib.itoa v) [45]).length ≤ 18) : numb (Lib.itoa v) = (v, true) := by
  rw [trim45] at h
  by_cases hv : v < 0
  · obtain ⟨u, hu⟩ : ∃ u : Nat, v = -(u : Int) := ⟨(-v).toNat, by omega⟩
    subst hu
    have h1 : 1 ≤ u := by omega
    obtain ⟨d1, d2, c, r, d3, d4⟩ := dec_spec u u (Nat.le_refl _)
    rw [Lib.itoa_neg u h1] at h ⊢
    simp only at h
    rw [if_pos (by decide)] at h
    unfold numb
    simp only
    rw [if_pos (by decide), if_neg, d1]
    simp only [not_or]
    refine ⟨by rw [d3]; simp, by omega, ?_, by rw [d2]; simp⟩
    rw [d3]
    simp only [List.head?_cons, Option.map_some, Option.some.injEq]
    intro e
    have := (d4 e).1
    omega
  · obtain ⟨u, rfl⟩ : ∃ u : Nat, v = (u : Int) := ⟨v.toNat, by omega⟩
    obtain ⟨d1, d2, c, r, d3, d4⟩ := dec_spec u u (Nat.le_refl _)
    rw [Lib.itoa_nonneg] at h ⊢
    rw [d3] at h d2 d1 ⊢
    have hcd : 48 ≤ c.toNat ∧ c.toNat ≤ 57 := by
      simp only [List.all_cons, Bool.and_eq_true] at d2
      exact of_decide_eq_true d2.1
    simp only at h
    rw [if_neg (by omega)] at h
    unfold numb
    simp only
    rw [if_neg (by omega), if_neg, d1]
    simp only [not_or, not_and]
    exact ⟨by omega, fun e => by simp [(d4 e).2], by rw [d2]; simp⟩
theorem numb_false (l : List UInt8) (h : (numb l).2 = false) : numb l = (0, false) := by
  unfold numb at h ⊢
  cases l with
  | nil => rfl
  | cons c r =>
    simp only at h ⊢
    split <;> rename_i hc
    · rw [if_pos hc] at h
      split <;> rename_i hq
      · rfl
      · rw [if_neg hq] at h
        simp at h
    · rw [if_neg hc] at h
      split <;> rename_i hq
      · rfl
      · rw [if_neg hq] at h
        simp at h

/-! Two quotes put back to one -/
def esc8 (s : List UInt8) : List UInt8 := s.flatMap fun c => if c = 39 then [39, 39] else [c]
theorem idx_miss (c : UInt8) (r : List UInt8) (h : c ≠ 39) : Lib.index (c :: r) [39, 39] = if Lib.index r [39, 39] == -1 then -1 else Lib.index r [39, 39] + 1 := by
  rw [Lib.index]
  have : ([39, 39] : List UInt8).isPrefixOf (c :: r) = false := by
    have hc : ((39 : UInt8) == c) = false := beq_eq_false_iff_ne.2 (fun e => h e.symm)
    simp [List.isPrefixOf, hc]
  rw [this]
  simp
theorem idx_hit (r : List UInt8) : Lib.index (39 :: 39 :: r) [39, 39] = ((0 : Nat) : Int) := by
  rw [Lib.index, if_pos (by simp [List.isPrefixOf])]
  rfl
theorem cnt_miss (c : UInt8) (r : List UInt8) (h : c ≠ 39) : Lib.count (c :: r) [39, 39] = Lib.count r [39, 39] := by
  have hi := idx_miss c r h
  by_cases hm : Lib.index r [39, 39] = -1
  · rw [hm] at hi
    rw [Lib.count_miss hm, Lib.count_miss (by simpa using hi)]
  · have hge := Lib.index_ge r [39, 39]
    obtain ⟨i, hi'⟩ : ∃ i : Nat, Lib.index r [39, 39] = i := ⟨(Lib.index r [39, 39]).toNat, by omega⟩
    have hm' : ¬ ((Lib.index r [39, 39] == -1) = true) := by simpa using hm
    rw [if_neg hm', hi'] at hi
    rw [Lib.count_hit (i := i + 1) (by simp) (by rw [hi]; omega), Lib.count_hit (i := i) (by simp) hi']
    rw [show i + 1 + ([39, 39] : List UInt8).length = (i + ([39, 39] : List UInt8).length) + 1 by omega]
    rfl
theorem rep_step (c : UInt8) (r : List UInt8) (h : c ≠ 39) : ∀ k, k ≤ Lib.count r [39, 39] → Lib.replaceK [39, 39] [39] k (c :: r) = c :: Lib.replaceK [39, 39] [39] k r
  | 0, _ => rfl
  | k + 1, hk => by
    obtain ⟨i, hi'⟩ := Lib.index_of_count (s := r) (old := [39, 39]) (by omega)
    have hi := idx_miss c r h
    rw [hi', if_neg (by simp)] at hi
    rw [Lib.replaceK_hit [39, 39] [39] k (c :: r) (i + 1) (by rw [hi]; omega), Lib.replaceK_hit [39, 39] [39] k r i hi']
    rw [show i + 1 + ([39, 39] : List UInt8).length = (i + ([39, 39] : List UInt8).length) + 1 by omega]
    simp
theorem unesc : ∀ s : List UInt8, Lib.replaceK [39, 39] [39] (Lib.count (esc8 s) [39, 39]) (esc8 s) = s
  | [] => by
    show Lib.replaceK [39, 39] [39] (Lib.count [] [39, 39]) [] = []
    rw [Lib.count_miss (by rw [Lib.index]; rfl)]
    rfl
  | c :: s => by
    have e : esc8 (c :: s) = (if c = 39 then [39, 39] else [c]) ++ esc8 s := rfl
    rw [e]
    by_cases h : c = 39
    · rw [if_pos h]
      show Lib.replaceK [39, 39] [39] (Lib.count (39 :: 39 :: esc8 s) [39, 39]) (39 :: 39 :: esc8 s) = c :: s
      have h0 := idx_hit (esc8 s)
      have hc : Lib.count (39 :: 39 :: esc8 s) [39, 39] = Lib.count (esc8 s) [39, 39] + 1 := by
        rw [Lib.count_hit (i := 0) (by simp) h0, Nat.add_comm]
        rfl
      rw [hc, Lib.replaceK_hit [39, 39] [39] _ _ 0 h0]
      show 39 :: Lib.replaceK [39, 39] [39] (Lib.count (esc8 s) [39, 39]) (esc8 s) = c :: s
      rw [unesc s, h]
    · rw [if_neg h]
      show Lib.replaceK [39, 39] [39] (Lib.count (c :: esc8 s) [39, 39]) (c :: esc8 s) = c :: s
      rw [cnt_miss c _ h, rep_step c _ h _ (Nat.le_refl _), unesc s]
end Go.Proofs.YtnhfhafbdbmkpaaDoor.Lits
