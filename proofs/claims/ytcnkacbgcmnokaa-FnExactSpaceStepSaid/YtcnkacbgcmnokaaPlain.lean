/- Several texts of the session in one. -/
import Derived.Test.YtcnkacbgcmnokaaXtra
import Derived.Test.YtcnkacbgcmnokaaWWords
/- Small plain lemmas of the session for the pure statements; no condition. -/
namespace Go.Proofs.Ytcnkacbgcmnokaa.Aid
open Go Go.RowKit Go.Proofs.YtcnkacbgcmnokaaW.PrintWords

theorem wrap_id {x : Int} (h : -9223372036854775808 ≤ x) (h' : x ≤ 9223372036854775807) : wrap64 x = x := by
  unfold wrap64
  omega
theorem w1 : wrap64 1 = 1 := wrap_id (by omega) (by omega)
theorem w2 : wrap64 2 = 2 := wrap_id (by omega) (by omega)
theorem w3 : wrap64 3 = 3 := wrap_id (by omega) (by omega)
theorem w4 : wrap64 4 = 4 := wrap_id (by omega) (by omega)
theorem wn1 : wrap64 (-1) = -1 := wrap_id (by omega) (by omega)
theorem wf64 {x : Int} (h : (Lit.int .i64 x).wf = true) : -9223372036854775808 ≤ x ∧ x ≤ 9223372036854775807 := by
  simp [Lit.wf, IntKind.min, IntKind.max, IntKind.signed, IntKind.bits] at h
  omega
end Go.Proofs.Ytcnkacbgcmnokaa.Aid
/- A law's own loops over lists (sizes, copies, likeness, tests), each said once for every element type; no condition. -/
namespace Go.Proofs.Ytcnkacbgcmnokaa.Loops
open Go Go.RowKit Go.Proofs.YtcnkacbgcmnokaaW.PrintWords Go.Proofs.Ytcnkacbgcmnokaa.Aid

theorem set_copy {α β : Type} (f : α → β) (z : β) (xs : List α) (i d : Nat) (h : i + (d + 1) = xs.length) :
    ((xs.take i).map f ++ List.replicate (d + 1) z).set i (f (xs[i]'(by omega))) = (xs.take (i + 1)).map f ++ List.replicate d z := by
  have hl : ((xs.take i).map f).length = i := by simp; omega
  rw [List.set_append_right _ _ (by omega), hl, Nat.sub_self, List.replicate_succ, List.set_cons_zero, List.take_succ_eq_append_getElem (by omega), List.map_append, List.append_assoc]
  rfl
theorem next_ {i n : Nat} (h : i < n) (hn : n ≤ 140737488355328) : wrap64 ((i : Int) + 1) = ((i + 1 : Nat) : Int) := by
  rw [wrap_id (by omega) (by omega)]
  omega

/-- A copy, element by element. -/
theorem copyE {α β : Type} (F : Nat → List β → Int → Option (List β)) (xs : List α) (conv : α → β) (g : Nat → Int → Option β) (z : β) (hn : xs.length ≤ 140737488355328)
    (hg : ∀ (i : Nat) (h : i < xs.length), Ev (fun k => g k (i : Int)) (conv xs[i]))
    (hF : ∀ k ys i, F (k + 1) ys i = if i < (xs.length : Int) then (if 0 ≤ i then ((g k i).bind fun y => if i < (ys.length : Int) then F k (ys.set i.toNat y) (wrap64 (i + 1)) else none) else none) else some ys) :
    Ev (fun k => F k (List.replicate xs.length z) 0) (xs.map conv) := by
  have key : ∀ (d i : Nat), i + d = xs.length → Ev (fun k => F k ((xs.take i).map conv ++ List.replicate d z) (i : Int)) (xs.map conv) := by
    intro d
    induction d with
    | zero =>
      intro i hi
      refine Ev.step (f := fun _ => some (xs.map conv)) (fun k => ?_) (Ev.now _)
      rw [hF, if_neg (by omega), List.take_of_length_le (by omega)]
      simp
    | succ d ih =>
      intro i hi
      have hl : ((xs.take i).map conv ++ List.replicate (d + 1) z).length = xs.length := by simp; omega
      have hs := set_copy conv z xs i d hi
      refine Ev.step (f := fun k => (g k (i : Int)).bind fun y => if (i : Int) < (((xs.take i).map conv ++ List.replicate (d + 1) z).length : Int) then F k (((xs.take i).map conv ++ List.replicate (d + 1) z).set (i : Int).toNat y) (wrap64 ((i : Int) + 1)) else none) (fun k => ?_) ?_
      · rw [hF, if_pos (by omega), if_pos (by omega)]
      · refine Ev.bind (hg i (by omega)) (Ev.congr (fun k => if_pos (by omega)) ?_)
        rw [Int.toNat_natCast, hs, next_ (n := xs.length) (by omega) hn]
        exact ih (i + 1) (by omega)
  have := key xs.length 0 (by omega)
  simpa using this

/-- Likeness: all elements are alike. -/
theorem eqE (F : Nat → Int → Option Bool) (n : Nat) (m : Int) (g : Nat → Int → Option Bool) (hn : n ≤ 140737488355328) (hm : m = (n : Int)) (hg : ∀ i, i < n → Ev (fun k => g k (i : Int)) true)
    (hF : ∀ k i, F (k + 1) i = if i < (n : Int) then (if 0 ≤ i then (if i < m then ((g k i).bind fun t => if t = true then F k (wrap64 (i + 1)) else some false) else none) else none) else some true) :
    Ev (fun k => F k 0) true := by
  have key : ∀ (d i : Nat), i + d = n → Ev (fun k => F k (i : Int)) true := by
    intro d
    induction d with
    | zero =>
      intro i hi
      refine Ev.step (f := fun _ => some true) (fun k => ?_) (Ev.now _)
      rw [hF, if_neg (by omega)]
    | succ d ih =>
      intro i hi
      refine Ev.step (f := fun k => (g k (i : Int)).bind fun t => if t = true then F k (wrap64 ((i : Int) + 1)) else some false) (fun k => ?_) ?_
      · rw [hF, if_pos (by omega), if_pos (by omega), if_pos (by omega)]
      · refine Ev.bind (hg i (by omega)) (Ev.congr (fun k => if_pos rfl) ?_)
        rw [next_ (n := n) (by omega) hn]
        exact ih (i + 1) (by omega)
  exact key n 0 (by omega)
/-- The same, the test in place. -/
theorem eqP (F : Nat → Int → Option Bool) (n : Nat) (m : Int) (p : Int → Prop) [DecidablePred p] (hn : n ≤ 140737488355328) (hm : m = (n : Int)) (hp : ∀ i, p i)
    (hF : ∀ k i, F (k + 1) i = if i < (n : Int) then (if 0 ≤ i then (if i < m then (if p i then F k (wrap64 (i + 1)) else some false) else none) else none) else some true) :
    Ev (fun k => F k 0) true :=
  eqE F n m (fun _ _ => some true) hn hm (fun _ _ => Ev.now _) (fun k i => by rw [hF]; simp only [hp i, if_true, Option.bind_some])

/-- A test of all elements, and what follows. -/
theorem allE (F : Nat → Int → Option Bool) (n : Nat) (t : Nat → Bool) (r : Bool) (g E : Nat → Int → Option Bool) (hn : n ≤ 140737488355328) (hg : ∀ i, i < n → Ev (fun k => g k (i : Int)) (t i)) (hE : Ev (fun k => E k (n : Int)) r)
    (hF : ∀ k i, F (k + 1) i = if i < (n : Int) then (if 0 ≤ i then ((g k i).bind fun t => if t = true then F k (wrap64 (i + 1)) else some false) else none) else E k i) :
    Ev (fun k => F k 0) ((List.range n).all t && r) := by
  have key : ∀ (d i : Nat), i + d = n → Ev (fun k => F k (i : Int)) (((List.range n).drop i).all t && r) := by
    intro d
    induction d with
    | zero =>
      intro i hi
      obtain rfl : i = n := by omega
      have hd : (List.range i).drop i = [] := List.drop_eq_nil_of_le (by simp)
      rw [hd, List.all_nil, Bool.true_and]
      refine Ev.step (fun k => ?_) hE
      rw [hF, if_neg (by omega)]
    | succ d ih =>
      intro i hi
      have hd : (List.range n).drop i = i :: (List.range n).drop (i + 1) := by
        rw [List.drop_eq_getElem_cons (by simp; omega)]
        simp
      rw [hd, List.all_cons]
      refine Ev.step (f := fun k => (g k (i : Int)).bind fun t => if t = true then F k (wrap64 ((i : Int) + 1)) else some false) (fun k => ?_) ?_
      · rw [hF, if_pos (by omega), if_pos (by omega)]
      · refine Ev.bind (hg i (by omega)) ?_
        cases t i with
        | false => exact Ev.congr (fun k => if_neg (by simp)) (Ev.now _)
        | true =>
          refine Ev.congr (fun k => if_pos rfl) ?_
          rw [next_ (n := n) (by omega) hn, Bool.true_and]
          exact ih (i + 1) (by omega)
  have := key n 0 (by omega)
  simpa using this
theorem range_all {α : Type} (xs : List α) (p : α → Bool) (d : α) : (List.range xs.length).all (fun i => p (xs.getD i d)) = xs.all p := by
  rw [Bool.eq_iff_iff, List.all_eq_true, List.all_eq_true]
  constructor
  · intro h x hx
    obtain ⟨i, hi, rfl⟩ := List.getElem_of_mem hx
    have := h i (by simpa using hi)
    simpa [List.getD_eq_getElem?_getD, List.getElem?_eq_getElem hi] using this
  · intro h i hi
    have hi' : i < xs.length := by simpa using hi
    have := h _ (List.getElem_mem hi')
    simpa [List.getD_eq_getElem?_getD, List.getElem?_eq_getElem hi'] using this

/-- Sizes: what is left of a budget, or that it is spent. -/
theorem szE (F : Nat → Int → Int → Option Int) (n : Nat) (g : Nat → Int → Int → Option Int) (M : Int) (hn : n ≤ 140737488355328)
    (hg : ∀ i, i < n → ∀ a : Int, 0 ≤ a → a ≤ M → ∃ r, Ev (fun k => g k a (i : Int)) r ∧ r ≤ a)
    (hF : ∀ k a i, F (k + 1) a i = if i < (n : Int) then (if 0 ≤ i then ((g k a i).bind fun t => if t < 0 then some (-1) else F k t (wrap64 (i + 1))) else none) else some a) :
    ∀ a : Int, 0 ≤ a → a ≤ M → ∃ r, Ev (fun k => F k a 0) r ∧ r ≤ a := by
  have key : ∀ (d i : Nat) (a : Int), i + d = n → 0 ≤ a → a ≤ M → ∃ r, Ev (fun k => F k a (i : Int)) r ∧ r ≤ a := by
    intro d
    induction d with
    | zero =>
      intro i a hi h0 h1
      refine ⟨a, Ev.step (f := fun _ => some a) (fun k => ?_) (Ev.now _), Int.le_refl _⟩
      rw [hF, if_neg (by omega)]
    | succ d ih =>
      intro i a hi h0 h1
      obtain ⟨t, ht, hta⟩ := hg i (by omega) a h0 h1
      by_cases hneg : t < 0
      · refine ⟨-1, Ev.step (f := fun k => (g k a (i : Int)).bind fun t => if t < 0 then some (-1) else F k t (wrap64 ((i : Int) + 1))) (fun k => ?_) (Ev.bind ht (Ev.congr (fun k => if_pos hneg) (Ev.now _))), by omega⟩
        rw [hF, if_pos (by omega), if_pos (by omega)]
      · obtain ⟨r, hr, hra⟩ := ih (i + 1) t (by omega) (by omega) (by omega)
        refine ⟨r, Ev.step (f := fun k => (g k a (i : Int)).bind fun t => if t < 0 then some (-1) else F k t (wrap64 ((i : Int) + 1))) (fun k => ?_) (Ev.bind ht (Ev.congr (fun k => if_neg hneg) ?_)), by omega⟩
        · rw [hF, if_pos (by omega), if_pos (by omega)]
        · rw [next_ (n := n) (by omega) hn]
          exact hr
  exact fun a h0 h1 => key n 0 a (by omega) h0 h1
/-- A text's size. -/
theorem sz_text (a s : Int) (h0 : 0 ≤ a) (h1 : a ≤ 1048576) (s0 : 0 ≤ s) (s1 : s ≤ 9223372036854775807) : wrap64 (a - s) = a - s := wrap_id (by omega) (by omega)
theorem szP (F : Nat → Int → Int → Option Int) (n : Nat) (s : Int → Int) (hn : n ≤ 140737488355328) (hs : ∀ i : Nat, i < n → 0 ≤ s (i : Int) ∧ s (i : Int) ≤ 9223372036854775807)
    (hF : ∀ k a i, F (k + 1) a i = if i < (n : Int) then (if 0 ≤ i then (if wrap64 (a - s i) < 0 then some (-1) else F k (wrap64 (a - s i)) (wrap64 (i + 1))) else none) else some a) :
    ∀ a : Int, 0 ≤ a → a ≤ 1048576 → ∃ r, Ev (fun k => F k a 0) r ∧ r ≤ a := by
  refine szE F n (fun _ a i => some (if wrap64 (a - s i) < 0 then -1 else wrap64 (a - s i))) 1048576 hn (fun i hi a h0 h1 => ⟨_, Ev.now _, ?_⟩) (fun k a i => ?_)
  · rw [sz_text a (s i) h0 h1 (hs i hi).1 (hs i hi).2]
    have := (hs i hi).1
    split <;> omega
  · rw [hF]
    simp only [Option.bind_some]
    by_cases h : wrap64 (a - s i) < 0
    · simp only [if_pos h]
      rfl
    · simp only [if_neg h]
/-- A list's own length first. -/
theorem szL (n : Nat) (hl : n ≤ 9223372036854775807) (f : Nat → Int → Option Int) (G : Nat → Int → Option Int) (hG : n ≤ 1048576 → ∀ a : Int, 0 ≤ a → a ≤ 1048576 → ∃ r, Ev (fun k => G k a) r ∧ r ≤ a)
    (hf : ∀ k a, f k a = if wrap64 (a - (n : Int)) < 0 then some (-1) else G k (wrap64 (a - (n : Int)))) (a : Int) (h0 : 0 ≤ a) (h1 : a ≤ 1048576) :
    ∃ r, Ev (fun k => f k a) r ∧ r ≤ a ∧ (0 ≤ r → n ≤ 1048576) := by
  have hw := sz_text a n h0 h1 (by omega) (by omega)
  by_cases hneg : a - (n : Int) < 0
  · exact ⟨-1, Ev.congr (fun k => by rw [hf, hw, if_pos hneg]) (Ev.now _), by omega, by omega⟩
  · obtain ⟨r, hr, hra⟩ := hG (by omega) (a - (n : Int)) (by omega) (by omega)
    exact ⟨r, Ev.congr (fun k => by rw [hf, hw, if_neg hneg]) hr, by omega, fun _ => by omega⟩
end Go.Proofs.Ytcnkacbgcmnokaa.Loops
/- What a law writes into results and reads back, said once for every element type; plain lemmas. -/
namespace Go.Proofs.Ytcnkacbgcmnokaa.MarkE
open Go Go.RowKit Go.Proofs.YtcnkacbgcmnokaaW.PrintWords Go.Proofs.Ytcnkacbgcmnokaa.Aid Go.Proofs.Ytcnkacbgcmnokaa.Loops
set_option linter.unusedVariables false

/-! The loops -/
def stone {β : Type} (mk : Int → β) (s c : Int) (n : Nat) : List β := (List.range n).map fun (i : Nat) => mk (s + c * (i : Int))
theorem stone_get {β : Type} (mk : Int → β) (s c : Int) (n : Nat) (z : β) (i : Nat) (h : i < n) : (stone mk s c n).getD i z = mk (s + c * i) := by
  unfold stone
  simp [List.getD_eq_getElem?_getD, h]
theorem markE {β : Type} (F : Nat → List β → Int → Int → Option (Int × List β)) (n : Nat) (s c : Int) (mk : Int → β) (h0 : 0 ≤ s) (h1 : 0 ≤ c) (hc : s + c * n ≤ 536870912)
    (hF : ∀ (i : Nat) (xs : List β) (a : Int) (r : Int × List β), xs.length = n → i < n → 0 ≤ a → a ≤ 536870912 → Ev (fun k => F k (xs.set i (mk a)) (a + c) ((i + 1 : Nat) : Int)) r → Ev (fun k => F k xs a (i : Int)) r)
    (hE : ∀ (xs : List β) (a : Int), xs.length = n → Ev (fun k => F k xs a (n : Int)) (a, xs)) (xs : List β) (hx : xs.length = n) :
    Ev (fun k => F k xs s 0) (s + c * n, stone mk s c n) := by
  have key : ∀ (d i : Nat) (ys : List β), i + d = n → ys.length = n → ys.take i = stone mk s c i → Ev (fun k => F k ys (s + c * i) (i : Int)) (s + c * n, stone mk s c n) := by
    intro d
    induction d with
    | zero =>
      intro i ys hi hy ht
      obtain rfl : i = n := by omega
      rw [List.take_of_length_le (by omega)] at ht
      rw [← ht]
      exact hE ys _ hy
    | succ d ih =>
      intro i ys hi hy ht
      have hci : c * (i : Int) ≤ c * (n : Int) := Int.mul_le_mul_of_nonneg_left (by omega) h1
      have hc0 : 0 ≤ c * (i : Int) := Int.mul_nonneg h1 (by omega)
      refine hF i ys (s + c * i) _ hy (by omega) (by omega) (by omega) ?_
      have e : s + c * (i : Int) + c = s + c * ((i + 1 : Nat) : Int) := by
        rw [show ((i + 1 : Nat) : Int) = (i : Int) + 1 by omega, Int.mul_add, Int.mul_one]
        omega
      rw [e]
      refine ih (i + 1) _ (by omega) (by simpa using hy) ?_
      unfold stone at ht ⊢
      rw [List.range_succ, List.map_append, ← ht, List.take_succ_eq_append_getElem (by simp; omega), List.take_set_of_le (Nat.le_refl i)]
      simp
  have := key n 0 xs (by omega) hx (by simp [stone])
  simpa using this
theorem heldE (F : Nat → Int → Int → Option Int) (n : Nat) (s c : Int) (h0 : 0 ≤ s) (h1 : 0 ≤ c) (hc : s + c * n ≤ 536870912)
    (hF : ∀ (i : Nat) (r : Int), i < n → s + c * i ≤ 536870912 → 0 ≤ s + c * i → Ev (fun k => F k (s + c * i + c) ((i + 1 : Nat) : Int)) r → Ev (fun k => F k (s + c * i) (i : Int)) r)
    (hE : ∀ a : Int, Ev (fun k => F k a (n : Int)) a) : Ev (fun k => F k s 0) (s + c * n) := by
  have key : ∀ (d i : Nat), i + d = n → Ev (fun k => F k (s + c * i) (i : Int)) (s + c * n) := by
    intro d
    induction d with
    | zero =>
      intro i hi
      obtain rfl : i = n := by omega
      exact hE _
    | succ d ih =>
      intro i hi
      have hci : c * (i : Int) ≤ c * (n : Int) := Int.mul_le_mul_of_nonneg_left (by omega) h1
      have hc0 : 0 ≤ c * (i : Int) := Int.mul_nonneg h1 (by omega)
      refine hF i _ (by omega) (by omega) (by omega) ?_
      have e : s + c * (i : Int) + c = s + c * ((i + 1 : Nat) : Int) := by
        rw [show ((i + 1 : Nat) : Int) = (i : Int) + 1 by omega, Int.mul_add, Int.mul_one]
        omega
      rw [e]
      exact ih (i + 1) (by omega)
  have := key n 0 (by omega)
  simpa using this

theorem set_get {β : Type} (xs : List β) (i : Nat) (x z : β) (h : i < xs.length) : (xs.set i x).getD i z = x := by
  simp [List.getD_eq_getElem?_getD, h]
end Go.Proofs.Ytcnkacbgcmnokaa.MarkE
