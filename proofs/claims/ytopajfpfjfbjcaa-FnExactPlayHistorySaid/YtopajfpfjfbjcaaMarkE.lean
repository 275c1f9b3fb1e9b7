/- What a law writes into results and reads back, said once for every element type; plain lemmas. -/
import Derived.Test.YtopajfpfjfbjcaaLoops
namespace Go.Proofs.Ytopajfpfjfbjcaa.MarkE
open Go Go.RowKit Go.Proofs.YtopajfpfjfbjcaaW.PrintWords Go.Proofs.Ytopajfpfjfbjcaa.Aid Go.Proofs.Ytopajfpfjfbjcaa.Loops
set_option linter.unusedVariables false

/-! The loops -/
def stone {β : Type} (mk : Int → β) (s c : Int) (n : Nat) : List β := (List.range n).map fun (i : Nat) => mk (s + c * (i : Int))
theorem stone_get {β : Type} (mk : Int → β) (s c : Int) (n : Nat) (z : β) (i : Nat) (h : i < n) : (stone mk s c n).getD i z = mk (s + c * i) := by
  unfold stone
  simp [List.getD_eq_getElem?_getD, h]
theorem markE {β : Type} (F : Nat → List β → Int → Int → Option (Int × List β)) (n : Nat) (s c : Int) (mk : Int → β) (h0 : 0 ≤ s) (h1 : 0 ≤ c) (hc : s + c * n ≤ 536870912)
    (hF : ∀ (i : Nat) (xs : List β) (a : Int) (r : Int × List β), xs.length = n → i < n → 0 ≤ a → a ≤ 536870912 → Ev (fun k => F k (xs.set i (mk a)) (a + c) ((i + 1 : Nat) : Int)) r → Ev (fun k => F k xs a (i : Int)) r)
    (hE : ∀ (xs : List β) (a : Int), xs.length = n → Ev (fun k => F k xs a (n : Int)) (a, xs)) (xs : List β) (hx : xs.length = n) :
    Ev (fun k => F k xs s 0) (s + c * n, stone mk s c n) := by
  have key : ∀ (d i : Nat) (ys : List β), i + d = n → ys.length = n → ys.take i = stone mk s c i → Ev (fun k => F k ys (s + c * i) (i : Int)) (s + c * n, stone mk s c n) := by
    intro d
    induction d with
    | zero =>
      intro i ys hi hy ht
      obtain rfl : i = n := by omega
      rw [List.take_of_length_le (by omega)] at ht
      rw [← ht]
      exact hE ys _ hy
    | succ d ih =>
      intro i ys hi hy ht
      have hci : c * (i : Int) ≤ c * (n : Int) := Int.mul_le_mul_of_nonneg_left (by omega) h1
      have hc0 : 0 ≤ c * (i : Int) := Int.mul_nonneg h1 (by omega)
      refine hF i ys (s + c * i) _ hy (by omega) (by omega) (by omega) ?_
      have e : s + c * (i : Int) + c = s + c * ((i + 1 : Nat) : Int) := by
        rw [show ((i + 1 : Nat) : Int) = (i : Int) + 1 by omega, Int.mul_add, Int.mul_one]
        omega
      rw [e]
      refine ih (i + 1) _ (by omega) (by simpa using hy) ?_
      unfold stone at ht ⊢
      rw [List.range_succ, List.map_append, ← ht, List.take_succ_eq_append_getElem (by simp; omega), List.take_set_of_le (Nat.le_refl i)]
      simp
  have := key n 0 xs (by omega) hx (by simp [stone])
  simpa using this
theorem heldE (F : Nat → Int → Int → Option Int) (n : Nat) (s c : Int) (h0 : 0 ≤ s) (h1 : 0 ≤ c) (hc : s + c * n ≤ 536870912)
    (hF : ∀ (i : Nat) (r : Int), i < n → s + c * i ≤ 536870912 → 0 ≤ s + c * i → Ev (fun k => F k (s + c * i + c) ((i + 1 : Nat) : Int)) r → Ev (fun k => F k (s + c * i) (i : Int)) r)
    (hE : ∀ a : Int, Ev (fun k => F k a (n : Int)) a) : Ev (fun k => F k s 0) (s + c * n) := by
  have key : ∀ (d i : Nat), i + d = n → Ev (fun k => F k (s + c * i) (i : Int)) (s + c * n) := by
    intro d
    induction d with
    | zero =>
      intro i hi
      obtain rfl : i = n := by omega
      exact hE _
    | succ d ih =>
      intro i hi
      have hci : c * (i : Int) ≤ c * (n : Int) := Int.mul_le_mul_of_nonneg_left (by omega) h1
      have hc0 : 0 ≤ c * (i : Int) := Int.mul_nonneg h1 (by omega)
      refine hF i _ (by omega) (by omega) (by omega) ?_
      have e : s + c * (i : Int) + c = s + c * ((i + 1 : Nat) : Int) := by
        rw [show ((i + 1 : Nat) : Int) = (i : Int) + 1 by omega, Int.mul_add, Int.mul_one]
        omega
      rw [e]
      exact ih (i + 1) (by omega)
  have := key n 0 (by omega)
  simpa using this

theorem set_get {β : Type} (xs : List β) (i : Nat) (x z : β) (h : i < xs.length) : (xs.set i x).getD i z = x := by
  simp [List.getD_eq_getElem?_getD, h]
end Go.Proofs.Ytopajfpfjfbjcaa.MarkE
