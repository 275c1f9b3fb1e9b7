/- Several texts of the session in one. -/
import Derived.Test.YtcnkacbgcmnokaaXtra
import Derived.Test.YtcnkacbgcmnokaaWWords
import Derived.Test.YtcnkacbgcmnokaaXR2
import Derived.Test.YtcnkacbgcmnokaaXR7
import Derived.Test.YtcnkacbgcmnokaaXR8
import Derived.Test.YtcnkacbgcmnokaaRunv
/- Several texts of the session in one. -/
/- Small plain lemmas of the session for the pure statements; no condition. -/
namespace Go.Proofs.Ytcnkacbgcmnokaa.Aid
open Go Go.RowKit Go.Proofs.YtcnkacbgcmnokaaW.PrintWords

theorem wrap_id {x : Int} (h : -9223372036854775808 ≤ x) (h' : x ≤ 9223372036854775807) : wrap64 x = x := by
  unfold wrap64
  omega
theorem w1 : wrap64 1 = 1 := wrap_id (by omega) (by omega)
theorem w2 : wrap64 2 = 2 := wrap_id (by omega) (by omega)
theorem w3 : wrap64 3 = 3 := wrap_id (by omega) (by omega)
theorem w4 : wrap64 4 = 4 := wrap_id (by omega) (by omega)
theorem wn1 : wrap64 (-1) = -1 := wrap_id (by omega) (by omega)
theorem wf64 {x : Int} (h : (Lit.int .i64 x).wf = true) : -9223372036854775808 ≤ x ∧ x ≤ 9223372036854775807 := by
  simp [Lit.wf, IntKind.min, IntKind.max, IntKind.signed, IntKind.bits] at h
  omega
end Go.Proofs.Ytcnkacbgcmnokaa.Aid
/- A law's own loops over lists (sizes, copies, likeness, tests), each said once for every element type; no condition. -/
namespace Go.Proofs.Ytcnkacbgcmnokaa.Loops
open Go Go.RowKit Go.Proofs.YtcnkacbgcmnokaaW.PrintWords Go.Proofs.Ytcnkacbgcmnokaa.Aid

theorem set_copy {α β : Type} (f : α → β) (z : β) (xs : List α) (i d : Nat) (h : i + (d + 1) = xs.length) :
    ((xs.take i).map f ++ List.replicate (d + 1) z).set i (f (xs[i]'(by omega))) = (xs.take (i + 1)).map f ++ List.replicate d z := by
  have hl : ((xs.take i).map f).length = i := by simp; omega
  rw [List.set_append_right _ _ (by omega), hl, Nat.sub_self, List.replicate_succ, List.set_cons_zero, List.take_succ_eq_append_getElem (by omega), List.map_append, List.append_assoc]
  rfl
theorem next_ {i n : Nat} (h : i < n) (hn : n ≤ 140737488355328) : wrap64 ((i : Int) + 1) = ((i + 1 : Nat) : Int) := by
  rw [wrap_id (by omega) (by omega)]
  omega

/-- A copy, element by element. -/
theorem copyE {α β : Type} (F : Nat → List β → Int → Option (List β)) (xs : List α) (conv : α → β) (g : Nat → Int → Option β) (z : β) (hn : xs.length ≤ 140737488355328)
    (hg : ∀ (i : Nat) (h : i < xs.length), Ev (fun k => g k (i : Int)) (conv xs[i]))
    (hF : ∀ k ys i, F (k + 1) ys i = if i < (xs.length : Int) then (if 0 ≤ i then ((g k i).bind fun y => if i < (ys.length : Int) then F k (ys.set i.toNat y) (wrap64 (i + 1)) else none) else none) else some ys) :
    Ev (fun k => F k (List.replicate xs.length z) 0) (xs.map conv) := by
  have key : ∀ (d i : Nat), i + d = xs.length → Ev (fun k => F k ((xs.take i).map conv ++ List.replicate d z) (i : Int)) (xs.map conv) := by
    intro d
    induction d with
    | zero =>
      intro i hi
      refine Ev.step (f := fun _ => some (xs.map conv)) (fun k => ?_) (Ev.now _)
      rw [hF, if_neg (by omega), List.take_of_length_le (by omega)]
      simp
    | succ d ih =>
      intro i hi
      have hl : ((xs.take i).map conv ++ List.replicate (d + 1) z).length = xs.length := by simp; omega
      have hs := set_copy conv z xs i d hi
      refine Ev.step (f := fun k => (g k (i : Int)).bind fun y => if (i : Int) < (((xs.take i).map conv ++ List.replicate (d + 1) z).length : Int) then F k (((xs.take i).map conv ++ List.replicate (d + 1) z).set (i : Int).toNat y) (wrap64 ((i : Int) + 1)) else none) (fun k => ?_) ?_
      · rw [hF, if_pos (by omega), if_pos (by omega)]
      · refine Ev.bind (hg i (by omega)) (Ev.congr (fun k => if_pos (by omega)) ?_)
        rw [Int.toNat_natCast, hs, next_ (n := xs.length) (by omega) hn]
        exact ih (i + 1) (by omega)
  have := key xs.length 0 (by omega)
  simpa using this

/-- Likeness: all elements are alike. -/
theorem eqE (F : Nat → Int → Option Bool) (n : Nat) (m : Int) (g : Nat → Int → Option Bool) (hn : n ≤ 140737488355328) (hm : m = (n : Int)) (hg : ∀ i, i < n → Ev (fun k => g k (i : Int)) true)
    (hF : ∀ k i, F (k + 1) i = if i < (n : Int) then (if 0 ≤ i then (if i < m then ((g k i).bind fun t => if t = true then F k (wrap64 (i + 1)) else some false) else none) else none) else some true) :
    Ev (fun k => F k 0) true := by
  have key : ∀ (d i : Nat), i + d = n → Ev (fun k => F k (i : Int)) true := by
    intro d
    induction d with
    | zero =>
      intro i hi
      refine Ev.step (f := fun _ => some true) (fun k => ?_) (Ev.now _)
      rw [hF, if_neg (by omega)]
    | succ d ih =>
      intro i hi
      refine Ev.step (f := fun k => (g k (i : Int)).bind fun t => if t = true then F k (wrap64 ((i : Int) + 1)) else some false) (fun k => ?_) ?_
      · rw [hF, if_pos (by omega), if_pos (by omega), if_pos (by omega)]
      · refine Ev.bind (hg i (by omega)) (Ev.congr (fun k => if_pos rfl) ?_)
        rw [next_ (n := n) (by omega) hn]
        exact ih (i + 1) (by omega)
  exact key n 0 (by omega)
/-- The same, the test in place. -/
theorem eqP (F : Nat → Int → Option Bool) (n : Nat) (m : Int) (p : Int → Prop) [DecidablePred p] (hn : n ≤ 140737488355328) (hm : m = (n : Int)) (hp : ∀ i, p i)
    (hF : ∀ k i, F (k + 1) i = if i < (n : Int) then (if 0 ≤ i then (if i < m then (if p i then F k (wrap64 (i + 1)) else some false) else none) else none) else some true) :
    Ev (fun k => F k 0) true :=
  eqE F n m (fun _ _ => some true) hn hm (fun _ _ => Ev.now _) (fun k i => by rw [hF]; simp only [hp i, if_true, Option.bind_some])

/-- A test of all elements, and what follows. -/
theorem allE (F : Nat → Int → Option Bool) (n : Nat) (t : Nat → Bool) (r : Bool) (g E : Nat → Int → Option Bool) (hn : n ≤ 140737488355328) (hg : ∀ i, i < n → Ev (fun k => g k (i : Int)) (t i)) (hE : Ev (fun k => E k (n : Int)) r)
    (hF : ∀ k i, F (k + 1) i = if i < (n : Int) then (if 0 ≤ i then ((g k i).bind fun t => if t = true then F k (wrap64 (i + 1)) else some false) else none) else E k i) :
    Ev (fun k => F k 0) ((List.range n).all t && r) := by
  have key : ∀ (d i : Nat), i + d = n → Ev (fun k => F k (i : Int)) (((List.range n).drop i).all t && r) := by
    intro d
    induction d with
    | zero =>
      intro i hi
      obtain rfl : i = n := by omega
      have hd : (List.range i).drop i = [] := List.drop_eq_nil_of_le (by simp)
      rw [hd, List.all_nil, Bool.true_and]
      refine Ev.step (fun k => ?_) hE
      rw [hF, if_neg (by omega)]
    | succ d ih =>
      intro i hi
      have hd : (List.range n).drop i = i :: (List.range n).drop (i + 1) := by
        rw [List.drop_eq_getElem_cons (by simp; omega)]
        simp
      rw [hd, List.all_cons]
      refine Ev.step (f := fun k => (g k (i : Int)).bind fun t => if t = true then F k (wrap64 ((i : Int) + 1)) else some false) (fun k => ?_) ?_
      · rw [hF, if_pos (by omega), if_pos (by omega)]
      · refine Ev.bind (hg i (by omega)) ?_
        cases t i with
        | false => exact Ev.congr (fun k => if_neg (by simp)) (Ev.now _)
        | true =>
          refine Ev.congr (fun k => if_pos rfl) ?_
          rw [next_ (n := n) (by omega) hn, Bool.true_and]
          exact ih (i + 1) (by omega)
  have := key n 0 (by omega)
  simpa using this
theorem range_all {α : Type} (xs : List α) (p : α → Bool) (d : α) : (List.range xs.length).all (fun i => p (xs.getD i d)) = xs.all p := by
  rw [Bool.eq_iff_iff, List.all_eq_true, List.all_eq_true]
  constructor
  · intro h x hx
    obtain ⟨i, hi, rfl⟩ := List.getElem_of_mem hx
    have := h i (by simpa using hi)
    simpa [List.getD_eq_getElem?_getD, List.getElem?_eq_getElem hi] using this
  · intro h i hi
    have hi' : i < xs.length := by simpa using hi
    have := h _ (List.getElem_mem hi')
    simpa [List.getD_eq_getElem?_getD, List.getElem?_eq_getElem hi'] using this

/-- Sizes: what is left of a budget, or that it is spent. -/
theorem szE (F : Nat → Int → Int → Option Int) (n : Nat) (g : Nat → Int → Int → Option Int) (M : Int) (hn : n ≤ 140737488355328)
    (hg : ∀ i, i < n → ∀ a : Int, 0 ≤ a → a ≤ M → ∃ r, Ev (fun k => g k a (i : Int)) r ∧ r ≤ a)
    (hF : ∀ k a i, F (k + 1) a i = if i < (n : Int) then (if 0 ≤ i then ((g k a i).bind fun t => if t < 0 then some (-1) else F k t (wrap64 (i + 1))) else none) else some a) :
    ∀ a : Int, 0 ≤ a → a ≤ M → ∃ r, Ev (fun k => F k a 0) r ∧ r ≤ a := by
  have key : ∀ (d i : Nat) (a : Int), i + d = n → 0 ≤ a → a ≤ M → ∃ r, Ev (fun k => F k a (i : Int)) r ∧ r ≤ a := by
    intro d
    induction d with
    | zero =>
      intro i a hi h0 h1
      refine ⟨a, Ev.step (f := fun _ => some a) (fun k => ?_) (Ev.now _), Int.le_refl _⟩
      rw [hF, if_neg (by omega)]
    | succ d ih =>
      intro i a hi h0 h1
      obtain ⟨t, ht, hta⟩ := hg i (by omega) a h0 h1
      by_cases hneg : t < 0
      · refine ⟨-1, Ev.step (f := fun k => (g k a (i : Int)).bind fun t => if t < 0 then some (-1) else F k t (wrap64 ((i : Int) + 1))) (fun k => ?_) (Ev.bind ht (Ev.congr (fun k => if_pos hneg) (Ev.now _))), by omega⟩
        rw [hF, if_pos (by omega), if_pos (by omega)]
      · obtain ⟨r, hr, hra⟩ := ih (i + 1) t (by omega) (by omega) (by omega)
        refine ⟨r, Ev.step (f := fun k => (g k a (i : Int)).bind fun t => if t < 0 then some (-1) else F k t (wrap64 ((i : Int) + 1))) (fun k => ?_) (Ev.bind ht (Ev.congr (fun k => if_neg hneg) ?_)), by omega⟩
        · rw [hF, if_pos (by omega), if_pos (by omega)]
        · rw [next_ (n := n) (by omega) hn]
          exact hr
  exact fun a h0 h1 => key n 0 a (by omega) h0 h1
/-- A text's size. -/
theorem sz_text (a s : Int) (h0 : 0 ≤ a) (h1 : a ≤ 1048576) (s0 : 0 ≤ s) (s1 : s ≤ 9223372036854775807) : wrap64 (a - s) = a - s := wrap_id (by omega) (by omega)
theorem szP (F : Nat → Int → Int → Option Int) (n : Nat) (s : Int → Int) (hn : n ≤ 140737488355328) (hs : ∀ i : Nat, i < n → 0 ≤ s (i : Int) ∧ s (i : Int) ≤ 9223372036854775807)
    (hF : ∀ k a i, F (k + 1) a i = if i < (n : Int) then (if 0 ≤ i then (if wrap64 (a - s i) < 0 then some (-1) else F k (wrap64 (a - s i)) (wrap64 (i + 1))) else none) else some a) :
    ∀ a : Int, 0 ≤ a → a ≤ 1048576 → ∃ r, Ev (fun k => F k a 0) r ∧ r ≤ a := by
  refine szE F n (fun _ a i => some (if wrap64 (a - s i) < 0 then -1 else wrap64 (a - s i))) 1048576 hn (fun i hi a h0 h1 => ⟨_, Ev.now _, ?_⟩) (fun k a i => ?_)
  · rw [sz_text a (s i) h0 h1 (hs i hi).1 (hs i hi).2]
    have := (hs i hi).1
    split <;> omega
  · rw [hF]
    simp only [Option.bind_some]
    by_cases h : wrap64 (a - s i) < 0
    · simp only [if_pos h]
      rfl
    · simp only [if_neg h]
/-- A list's own length first. -/
theorem szL (n : Nat) (hl : n ≤ 9223372036854775807) (f : Nat → Int → Option Int) (G : Nat → Int → Option Int) (hG : n ≤ 1048576 → ∀ a : Int, 0 ≤ a → a ≤ 1048576 → ∃ r, Ev (fun k => G k a) r ∧ r ≤ a)
    (hf : ∀ k a, f k a = if wrap64 (a - (n : Int)) < 0 then some (-1) else G k (wrap64 (a - (n : Int)))) (a : Int) (h0 : 0 ≤ a) (h1 : a ≤ 1048576) :
    ∃ r, Ev (fun k => f k a) r ∧ r ≤ a ∧ (0 ≤ r → n ≤ 1048576) := by
  have hw := sz_text a n h0 h1 (by omega) (by omega)
  by_cases hneg : a - (n : Int) < 0
  · exact ⟨-1, Ev.congr (fun k => by rw [hf, hw, if_pos hneg]) (Ev.now _), by omega, by omega⟩
  · obtain ⟨r, hr, hra⟩ := hG (by omega) (a - (n : Int)) (by omega) (by omega)
    exact ⟨r, Ev.congr (fun k => by rw [hf, hw, if_neg hneg]) hr, by omega, fun _ => by omega⟩
end Go.Proofs.Ytcnkacbgcmnokaa.Loops
/- What a law writes into results and reads back, said once for every element type; plain lemmas. -/
namespace Go.Proofs.Ytcnkacbgcmnokaa.MarkE
open Go Go.RowKit Go.Proofs.YtcnkacbgcmnokaaW.PrintWords Go.Proofs.Ytcnkacbgcmnokaa.Aid Go.Proofs.Ytcnkacbgcmnokaa.Loops
set_option linter.unusedVariables false

/-! The loops -/
def stone {β : Type} (mk : Int → β) (s c : Int) (n : Nat) : List β := (List.range n).map fun (i : Nat) => mk (s + c * (i : Int))
theorem stone_get {β : Type} (mk : Int → β) (s c : Int) (n : Nat) (z : β) (i : Nat) (h : i < n) : (stone mk s c n).getD i z = mk (s + c * i) := by
  unfold stone
  simp [List.getD_eq_getElem?_getD, h]
theorem markE {β : Type} (F : Nat → List β → Int → Int → Option (Int × List β)) (n : Nat) (s c : Int) (mk : Int → β) (h0 : 0 ≤ s) (h1 : 0 ≤ c) (hc : s + c * n ≤ 536870912)
    (hF : ∀ (i : Nat) (xs : List β) (a : Int) (r : Int × List β), xs.length = n → i < n → 0 ≤ a → a ≤ 536870912 → Ev (fun k => F k (xs.set i (mk a)) (a + c) ((i + 1 : Nat) : Int)) r → Ev (fun k => F k xs a (i : Int)) r)
    (hE : ∀ (xs : List β) (a : Int), xs.length = n → Ev (fun k => F k xs a (n : Int)) (a, xs)) (xs : List β) (hx : xs.length = n) :
    Ev (fun k => F k xs s 0) (s + c * n, stone mk s c n) := by
  have key : ∀ (d i : Nat) (ys : List β), i + d = n → ys.length = n → ys.take i = stone mk s c i → Ev (fun k => F k ys (s + c * i) (i : Int)) (s + c * n, stone mk s c n) := by
    intro d
    induction d with
    | zero =>
      intro i ys hi hy ht
      obtain rfl : i = n := by omega
      rw [List.take_of_length_le (by omega)] at ht
      rw [← ht]
      exact hE ys _ hy
    | succ d ih =>
      intro i ys hi hy ht
      have hci : c * (i : Int) ≤ c * (n : Int) := Int.mul_le_mul_of_nonneg_left (by omega) h1
      have hc0 : 0 ≤ c * (i : Int) := Int.mul_nonneg h1 (by omega)
      refine hF i ys (s + c * i) _ hy (by omega) (by omega) (by omega) ?_
      have e : s + c * (i : Int) + c = s + c * ((i + 1 : Nat) : Int) := by
        rw [show ((i + 1 : Nat) : Int) = (i : Int) + 1 by omega, Int.mul_add, Int.mul_one]
        omega
      rw [e]
      refine ih (i + 1) _ (by omega) (by simpa using hy) ?_
      unfold stone at ht ⊢
      rw [List.range_succ, List.map_append, ← ht, List.take_succ_eq_append_getElem (by simp; omega), List.take_set_of_le (Nat.le_refl i)]
      simp
  have := key n 0 xs (by omega) hx (by simp [stone])
  simpa using this
theorem heldE (F : Nat → Int → Int → Option Int) (n : Nat) (s c : Int) (h0 : 0 ≤ s) (h1 : 0 ≤ c) (hc : s + c * n ≤ 536870912)
    (hF : ∀ (i : Nat) (r : Int), i < n → s + c * i ≤ 536870912 → 0 ≤ s + c * i → Ev (fun k => F k (s + c * i + c) ((i + 1 : Nat) : Int)) r → Ev (fun k => F k (s + c * i) (i : Int)) r)
    (hE : ∀ a : Int, Ev (fun k => F k a (n : Int)) a) : Ev (fun k => F k s 0) (s + c * n) := by
  have key : ∀ (d i : Nat), i + d = n → Ev (fun k => F k (s + c * i) (i : Int)) (s + c * n) := by
    intro d
    induction d with
    | zero =>
      intro i hi
      obtain rfl : i = n := by omega
      exact hE _
    | succ d ih =>
      intro i hi
      have hci : c * (i : Int) ≤ c * (n : Int) := Int.mul_le_mul_of_nonneg_left (by omega) h1
      have hc0 : 0 ≤ c * (i : Int) := Int.mul_nonneg h1 (by omega)
      refine hF i _ (by omega) (by omega) (by omega) ?_
      have e : s + c * (i : Int) + c = s + c * ((i + 1 : Nat) : Int) := by
        rw [show ((i + 1 : Nat) : Int) = (i : Int) + 1 by omega, Int.mul_add, Int.mul_one]
        omega
      rw [e]
      exact ih (i + 1) (by omega)
  have := key n 0 (by omega)
  simpa using this

theorem set_get {β : Type} (xs : List β) (i : Nat) (x z : β) (h : i < xs.length) : (xs.set i x).getD i z = x := by
  simp [List.getD_eq_getElem?_getD, h]
end Go.Proofs.Ytcnkacbgcmnokaa.MarkE
/- Several texts of the session in one. -/
/- Numbers marked and read back; plain lemmas. -/
namespace Go.Proofs.Ytcnkacbgcmnokaa.MarkIR
open Go Go.RowKit Go.Proofs.Ytcnkacbgcmnokaa.XR Go.Proofs.YtcnkacbgcmnokaaW.PrintWords Go.Proofs.YtcnkacbgcmnokaaW.PrintLast Go.Proofs.YtcnkacbgcmnokaaW.PrintMore Go.Proofs.Ytcnkacbgcmnokaa.Aid Go.Proofs.Ytcnkacbgcmnokaa.Loops Go.Proofs.Ytcnkacbgcmnokaa.MarkE
set_option linter.unusedVariables false

theorem ints_mark (xs : List Int) (s : Int) (h0 : 0 ≤ s) (hc : s + 1 * xs.length ≤ 536870912) : Ev (fun k => laws_markIntS.f k xs s) (s + 1 * xs.length, stone (fun a => a) s 1 xs.length) := by
  unfold laws_markIntS.f
  refine markE (fun k xs a i => laws_markIntS.l0 k xs a i) xs.length s 1 (fun a => a) h0 (by omega) hc (fun i ys a r hy hi ha hb hr => ?_) (fun ys a hy => ?_) xs rfl
  · refine Ev.step (fun k => ?_) hr
    simp only [laws_markIntS.l0]
    rw [if_pos (by omega), if_pos (by omega), Int.toNat_natCast, wrap_id (x := a + 1) (by omega) (by omega), next_ (n := xs.length) hi (by omega)]
  · exact Ev.step (f := fun _ => some (a, ys)) (fun k => by simp only [laws_markIntS.l0]; rw [if_neg (by omega)]) (Ev.now _)
theorem ints_same (xs : List Int) (hl : xs.length ≤ 1048576) : Ev (fun k => laws_eqIntS.f k xs xs) true := by
  unfold laws_eqIntS.f
  refine Ev.congr (fun k => if_pos rfl) ?_
  exact eqP (fun k i => laws_eqIntS.l0 k xs xs i) xs.length (xs.length : Int) (fun i => rd xs i = rd xs i) (by omega) rfl (fun _ => rfl) (fun _ _ => rfl)
theorem ints_held (n : Nat) (s : Int) (h0 : 0 ≤ s) (hc : s + 1 * n ≤ 536870912) : Ev (fun k => laws_heldIntS.f k (stone (fun a => a) s 1 n) s) (s + 1 * n) := by
  have hl : (stone (fun a : Int => a) s 1 n).length = n := by simp [stone]
  unfold laws_heldIntS.f
  refine heldE (fun k a i => laws_heldIntS.l0 k (stone (fun a => a) s 1 n) a i) n s 1 h0 (by omega) hc (fun i r hi hb ha hr => ?_) (fun a => ?_)
  · have g : rd (stone (fun a : Int => a) s 1 n) (i : Int) = s + 1 * i := by
      show (stone (fun a : Int => a) s 1 n).getD (i : Int).toNat 0 = _
      rw [Int.toNat_natCast]
      exact stone_get (fun a : Int => a) s 1 n 0 i hi
    refine Ev.step (fun k => ?_) hr
    simp only [laws_heldIntS.l0]
    rw [hl, if_pos (by omega), if_pos (by omega), if_pos g, wrap_id (x := s + 1 * (i : Int) + 1) (by omega) (by omega), next_ (n := n) hi (by omega)]
  · exact Ev.step (f := fun _ => some a) (fun k => by simp only [laws_heldIntS.l0]; rw [hl, if_neg (by omega)]) (Ev.now _)
end Go.Proofs.Ytcnkacbgcmnokaa.MarkIR
/- Spaces: likeness, and what makes a space right; plain lemmas. -/
namespace Go.Proofs.Ytcnkacbgcmnokaa.XR
open Go Go.RowKit Go.Proofs.YtcnkacbgcmnokaaW.PrintWords Go.Proofs.YtcnkacbgcmnokaaW.PrintLast Go.Proofs.YtcnkacbgcmnokaaW.PrintMore
set_option linter.unusedVariables false
set_option linter.unusedSimpArgs false
theorem impl_SpaceOK.idx_l0 (x : Int) (l : List Int) (hm : l.length ≤ 9223372036854775807) : ∀ (d k i : Nat), i + d = l.length → d < k → ∃ r, slices_Index_int_int.l0 k l x (l.length : Int) (i : Int) = some r ∧ decide (r ≥ 0) = decide (x ∈ l.drop i)
  | 0, k, i, hd, hk => by
    obtain ⟨k, rfl⟩ : ∃ m, k = m + 1 := ⟨k - 1, by omega⟩
    simp only [slices_Index_int_int.l0]
    rw [if_neg (by omega), List.drop_eq_nil_of_le (by omega)]
    exact ⟨_, rfl, by simp⟩
  | d + 1, k, i, hd, hk => by
    obtain ⟨k, rfl⟩ : ∃ m, k = m + 1 := ⟨k - 1, by omega⟩
    have hlt : i < l.length := by omega
    obtain ⟨r, ih, hr⟩ := impl_SpaceOK.idx_l0 x l hm d k (i + 1) (by omega) (by omega)
    have hw : wrap64 ((i : Int) + 1) = ((i + 1 : Nat) : Int) := by unfold wrap64; omega
    have hrd : rd l (i : Int) = l[i] := by simp [rd, List.getD_eq_getElem?_getD, List.getElem?_eq_getElem hlt]
    simp only [slices_Index_int_int.l0]
    rw [if_pos (by omega), if_pos (by omega), if_pos (by omega), List.drop_eq_getElem_cons hlt, hw, ih, hrd]
    by_cases e : x = l[i]
    · rw [if_pos e]
      exact ⟨_, rfl, by rw [decide_eq_true (by omega), decide_eq_true (by rw [e]; exact List.mem_cons_self)]⟩
    · rw [if_neg e]
      exact ⟨r, rfl, by rw [hr]; exact decide_eq_decide.mpr (by rw [List.mem_cons]; exact (or_iff_right e).symm)⟩
theorem impl_SpaceOK.has_some (l : List Int) (x : Int) (hm : l.length ≤ 9223372036854775807) : slices_Contains_int_int.f (l.length + 1) l x = some (decide (x ∈ l)) := by
  obtain ⟨r, h, hr⟩ := impl_SpaceOK.idx_l0 x l hm l.length (l.length + 1) 0 (by omega) (by omega)
  unfold slices_Contains_int_int.f slices_Index_int_int.f
  rw [show ((0 : Nat) : Int) = 0 from rfl] at h
  rw [h, Option.bind_some, hr]
  rfl
theorem impl_SpaceOK.held_l0 (l : List S74) (hm : l.length ≤ 8796093022208) : ∀ (d k i : Nat) (acc : List Int), i + d = l.length → acc.length = i → d < k → impl_Space_heldPages.l0 k acc l (l.length : Int) (i : Int) = some (acc ++ (l.drop i).map (·.f0))
  | 0, k, i, acc, hd, ha, hk => by
    obtain ⟨k, rfl⟩ : ∃ m, k = m + 1 := ⟨k - 1, by omega⟩
    simp only [impl_Space_heldPages.l0]
    rw [if_neg (by omega), List.drop_eq_nil_of_le (by omega)]
    simp
  | d + 1, k, i, acc, hd, ha, hk => by
    obtain ⟨k, rfl⟩ : ∃ m, k = m + 1 := ⟨k - 1, by omega⟩
    have hlt : i < l.length := by omega
    have hw : wrap64 ((i : Int) + 1) = ((i + 1 : Nat) : Int) := by unfold wrap64; omega
    have hrd : rd_T74 l (i : Int) = l[i] := by simp [rd_T74, List.getD_eq_getElem?_getD, List.getElem?_eq_getElem hlt]
    have ih := impl_SpaceOK.held_l0 l hm d k (i + 1) (acc ++ [(rd_T74 l (i : Int)).f0]) (by omega) (by simp [ha]) (by omega)
    simp only [impl_Space_heldPages.l0]
    rw [if_pos (by omega), if_pos (by omega), if_pos (by omega), if_pos (by omega), hw, ih, List.drop_eq_getElem_cons hlt, hrd, List.map_cons, List.append_assoc]
    rfl
theorem impl_SpaceOK.held_some (a b : Int) (l2 l4 : List Int) (l : List S74) (hm : l.length ≤ 8796093022208) : impl_Space_heldPages.f (l.length + 1) a b l2 l l4 = some (l.map (·.f0)) := by
  have h := impl_SpaceOK.held_l0 l hm l.length (l.length + 1) 0 [] (by omega) rfl (by omega)
  simpa [impl_Space_heldPages.f] using h
end Go.Proofs.Ytcnkacbgcmnokaa.XR
namespace Go.Proofs.Ytcnkacbgcmnokaa.SpaR
open Go Go.RowKit Go.Proofs.Ytcnkacbgcmnokaa.XR Go.Proofs.YtcnkacbgcmnokaaW.PrintWords Go.Proofs.YtcnkacbgcmnokaaW.PrintLast Go.Proofs.YtcnkacbgcmnokaaW.PrintMore Go.Proofs.Ytcnkacbgcmnokaa.Aid Go.Proofs.Ytcnkacbgcmnokaa.Loops
set_option linter.unusedVariables false
set_option linter.unusedSimpArgs false
abbrev H := S74
theorem rdH (xs : List H) (i : Nat) (h : i < xs.length) : rd_T74 xs (i : Int) = xs[i] := by
  simp [rd_T74, List.getD_eq_getElem?_getD, List.getElem?_eq_getElem h]
theorem rdI (xs : List Int) (i : Nat) (h : i < xs.length) : rd xs (i : Int) = xs[i] := by
  simp [rd, List.getD_eq_getElem?_getD, List.getElem?_eq_getElem h]
theorem ints_same (xs : List Int) (hl : xs.length ≤ 1048576) : Ev (fun k => laws_eqIntS.f k xs xs) true := by
  unfold laws_eqIntS.f
  refine Ev.congr (fun k => if_pos rfl) ?_
  exact eqP (fun k i => laws_eqIntS.l0 k xs xs i) xs.length xs.length (fun i => rd xs i = rd xs i) (by omega) rfl (fun _ => rfl) (fun _ _ => rfl)
theorem helds_same (xs : List H) (hl : xs.length ≤ 1048576) : Ev (fun k => laws_eqHeldS.f k xs xs) true := by
  unfold laws_eqHeldS.f
  refine Ev.congr (fun k => if_pos rfl) ?_
  exact eqE (fun k i => laws_eqHeldS.l0 k xs xs i) xs.length xs.length (fun _ i => laws_eqHeld.f (rd_T74 xs i).f0 (rd_T74 xs i).f1 (rd_T74 xs i).f0 (rd_T74 xs i).f1) (by omega) rfl (fun i hi => by unfold laws_eqHeld.f; rw [if_pos rfl, if_pos rfl]; exact Ev.now _) (fun _ _ => rfl)
theorem space_same (a b : Int) (l2 : List Int) (l3 : List H) (l4 : List Int) (h2 : l2.length ≤ 1048576) (h3 : l3.length ≤ 1048576) (h4 : l4.length ≤ 1048576) :
    Ev (fun k => laws_eqSpace.f k a b l2 l3 l4 a b l2 l3 l4) true := by
  unfold laws_eqSpace.f
  refine Ev.congr (fun k => (if_pos rfl).trans (if_pos rfl)) ?_
  exact Ev.bind (ints_same l2 h2) (Ev.congr (fun k => if_pos rfl) (Ev.bind (helds_same l3 h3) (Ev.congr (fun k => if_pos rfl) (Ev.bind (ints_same l4 h4) (Ev.congr (fun k => if_pos rfl) (Ev.now _))))))

/-- When a space is right. -/
structure Good (a b : Int) (l2 : List Int) (l3 : List H) (l4 : List Int) : Prop where
  a0 : 1 ≤ a
  a1 : a ≤ 64
  b0 : 0 ≤ b
  b1 : b ≤ 1000000
  now : ∀ x ∈ l2, 0 ≤ x ∧ x ≤ a - 1
  nowUp : l2.Pairwise (· < ·)
  held : ∀ x ∈ l3.map (·.f0), 0 ≤ x ∧ x ≤ a - 1
  heldUp : (l3.map (·.f0)).Pairwise (· < ·)
  apart : ∀ x ∈ l3.map (·.f0), x ∉ l2
  since : ∀ x ∈ l3, 0 ≤ x.f1 ∧ x.f1 ≤ b - 1
  pinsFew : l4.length ≤ 4
  pins : ∀ x ∈ l4, 0 ≤ x ∧ x ≤ b
theorem few : ∀ (n : Nat) (l : List Int), l.Nodup → (∀ x ∈ l, 0 ≤ x ∧ x < (n : Int)) → l.length ≤ n
  | 0, l, _, h => by
    cases l with
    | nil => simp
    | cons x xs => exact absurd (h x List.mem_cons_self) (by omega)
  | n + 1, l, hn, h => by
    have h1 := few n (l.erase (n : Int)) (hn.erase _) (fun x hx => by
      obtain ⟨hne, hm⟩ := hn.mem_erase_iff.1 hx
      have := h x hm
      omega)
    by_cases hm : (n : Int) ∈ l
    · rw [List.length_erase_of_mem hm] at h1
      omega
    · rw [List.erase_of_not_mem hm] at h1
      omega
theorem up_nodup (l : List Int) (h : l.Pairwise (· < ·)) : l.Nodup := by
  unfold List.Nodup
  refine h.imp ?_
  intro x y hxy e
  omega
end Go.Proofs.Ytcnkacbgcmnokaa.SpaR
/- Spaces marked; plain lemmas. -/
namespace Go.Proofs.Ytcnkacbgcmnokaa.MarkSfR
open Go Go.RowKit Go.Proofs.Ytcnkacbgcmnokaa.XR Go.Proofs.YtcnkacbgcmnokaaW.PrintWords Go.Proofs.YtcnkacbgcmnokaaW.PrintLast Go.Proofs.YtcnkacbgcmnokaaW.PrintMore Go.Proofs.Ytcnkacbgcmnokaa.Aid Go.Proofs.Ytcnkacbgcmnokaa.Loops Go.Proofs.Ytcnkacbgcmnokaa.MarkE Go.Proofs.Ytcnkacbgcmnokaa.MarkIR Go.Proofs.Ytcnkacbgcmnokaa.SpaR
set_option linter.unusedVariables false
set_option linter.unusedSimpArgs false

def mkHeld (a : Int) : H := ⟨a, a + 1⟩
theorem helds_mark (xs : List H) (s : Int) (h0 : 0 ≤ s) (hc : s + 2 * xs.length ≤ 536870912) : Ev (fun k => laws_markHeldS.f k xs s) (s + 2 * xs.length, stone mkHeld s 2 xs.length) := by
  unfold laws_markHeldS.f
  refine markE (fun k xs a i => laws_markHeldS.l0 k xs a i) xs.length s 2 mkHeld h0 (by omega) hc (fun i ys a r hy hi ha hb hr => ?_) (fun ys a hy => ?_) xs rfl
  · have g : ∀ (y : H), rd_T74 (ys.set i y) (i : Int) = y := fun y => by
      show (ys.set i y).getD (i : Int).toNat z74 = y
      rw [Int.toNat_natCast]
      exact set_get ys i y z74 (by omega)
    have e1 : wrap64 (a + 1) = a + 1 := wrap_id (by omega) (by omega)
    have e2 : wrap64 (a + 1 + 1) = a + 2 := by rw [wrap_id (by omega) (by omega)]; omega
    refine Ev.step (fun k => ?_) hr
    simp only [laws_markHeldS.l0, Option.bind_some]
    rw [if_pos (by omega), if_pos (by omega)]
    simp only [Int.toNat_natCast, List.set_set, g, e1, e2]
    rw [next_ (n := xs.length) hi (by omega)]
    rfl
  · exact Ev.step (f := fun _ => some (a, ys)) (fun k => by simp only [laws_markHeldS.l0]; rw [if_neg (by omega)]) (Ev.now _)
theorem space_mark (a b : Int) (l2 : List Int) (l3 : List H) (l4 : List Int) (s : Int) (h0 : 0 ≤ s) (hs : s ≤ 1048576) (h2 : l2.length ≤ 1048576) (h3 : l3.length ≤ 1048576) (h4 : l4.length ≤ 1048576) :
    Ev (fun k => laws_markSpace.f k a b l2 l3 l4 s) (s + l2.length + 2 * l3.length + l4.length, stone (fun a => a) s 1 l2.length, stone mkHeld (s + l2.length) 2 l3.length, stone (fun a => a) (s + l2.length + 2 * l3.length) 1 l4.length) := by
  unfold laws_markSpace.f
  have e1 := ints_mark l2 s h0 (by omega)
  have e2 := helds_mark l3 (s + l2.length) (by omega) (by omega)
  have e3 := ints_mark l4 (s + l2.length + 2 * l3.length) (by omega) (by omega)
  rw [show s + 1 * (l2.length : Int) = s + l2.length by omega] at e1
  rw [show s + (l2.length : Int) + 2 * (l3.length : Int) + 1 * (l4.length : Int) = s + l2.length + 2 * l3.length + l4.length by omega] at e3
  exact Ev.bind e1 (Ev.bind e2 (Ev.bind e3 (Ev.now _)))
end Go.Proofs.Ytcnkacbgcmnokaa.MarkSfR
/- Spaces and replies marked and read back; plain lemmas. -/
namespace Go.Proofs.Ytcnkacbgcmnokaa.MarkSrR
open Go Go.RowKit Go.Proofs.Ytcnkacbgcmnokaa.XR Go.Proofs.YtcnkacbgcmnokaaW.PrintWords Go.Proofs.YtcnkacbgcmnokaaW.PrintLast Go.Proofs.YtcnkacbgcmnokaaW.PrintMore Go.Proofs.Ytcnkacbgcmnokaa.Aid Go.Proofs.Ytcnkacbgcmnokaa.Loops Go.Proofs.Ytcnkacbgcmnokaa.MarkE Go.Proofs.Ytcnkacbgcmnokaa.MarkIR Go.Proofs.Ytcnkacbgcmnokaa.SpaR Go.Proofs.Ytcnkacbgcmnokaa.MarkSfR
set_option linter.unusedVariables false
set_option linter.unusedSimpArgs false
theorem helds_held (n : Nat) (s : Int) (h0 : 0 ≤ s) (hc : s + 2 * n ≤ 536870912) : Ev (fun k => laws_heldHeldS.f k (stone mkHeld s 2 n) s) (s + 2 * n) := by
  have hl : (stone mkHeld s 2 n).length = n := by simp [stone]
  unfold laws_heldHeldS.f
  refine heldE (fun k a i => laws_heldHeldS.l0 k (stone mkHeld s 2 n) a i) n s 2 h0 (by omega) hc (fun i r hi hb ha hr => ?_) (fun a => ?_)
  · have g : rd_T74 (stone mkHeld s 2 n) (i : Int) = mkHeld (s + 2 * i) := by
      show (stone mkHeld s 2 n).getD (i : Int).toNat z74 = _
      rw [Int.toNat_natCast]
      exact stone_get mkHeld s 2 n z74 i hi
    have e1 : wrap64 (s + 2 * (i : Int) + 1) = s + 2 * (i : Int) + 1 := wrap_id (by omega) (by omega)
    have e2 : wrap64 (s + 2 * (i : Int) + 1 + 1) = s + 2 * (i : Int) + 2 := by rw [wrap_id (by omega) (by omega)]; omega
    refine Ev.step (fun k => ?_) hr
    simp only [laws_heldHeldS.l0]
    rw [hl, if_pos (by omega), if_pos (by omega), g]
    simp only [mkHeld, e1, e2]
    rw [if_pos trivial, if_pos trivial, next_ (n := n) hi (by omega)]
  · exact Ev.step (f := fun _ => some a) (fun k => by simp only [laws_heldHeldS.l0]; rw [hl, if_neg (by omega)]) (Ev.now _)
theorem space_held (a b : Int) (n2 n3 n4 : Nat) (s : Int) (h0 : 0 ≤ s) (hs : s ≤ 1048576) (h2 : n2 ≤ 1048576) (h3 : n3 ≤ 1048576) (h4 : n4 ≤ 1048576) :
    Ev (fun k => laws_heldSpace.f k a b (stone (fun a => a) s 1 n2) (stone mkHeld (s + n2) 2 n3) (stone (fun a => a) (s + n2 + 2 * n3) 1 n4) s) (s + n2 + 2 * n3 + n4) := by
  unfold laws_heldSpace.f
  have e1 := ints_held n2 s h0 (by omega)
  have e2 := helds_held n3 (s + n2) (by omega) (by omega)
  have e3 := ints_held n4 (s + n2 + 2 * n3) (by omega) (by omega)
  rw [show s + 1 * (n2 : Int) = s + n2 by omega] at e1
  rw [show s + (n2 : Int) + 2 * (n3 : Int) + 1 * (n4 : Int) = s + n2 + 2 * n3 + n4 by omega] at e3
  exact Ev.bind e1 (Ev.congr (fun k => if_neg (by omega)) (Ev.bind e2 (Ev.congr (fun k => if_neg (by omega)) (Ev.bind e3 (Ev.congr (fun k => if_neg (by omega)) (Ev.now _))))))
end Go.Proofs.Ytcnkacbgcmnokaa.MarkSrR
/- The free pages of a right space on both sides; plain lemmas. -/
namespace Go.Proofs.Ytcnkacbgcmnokaa.FreeR
open Go Go.RowKit Go.Proofs.Ytcnkacbgcmnokaa.XR Go.Proofs.YtcnkacbgcmnokaaW.PrintWords Go.Proofs.YtcnkacbgcmnokaaW.PrintLast Go.Proofs.YtcnkacbgcmnokaaW.PrintMore Go.Proofs.Ytcnkacbgcmnokaa.Aid Go.Proofs.Ytcnkacbgcmnokaa.Loops Go.Proofs.Ytcnkacbgcmnokaa.SpaR
set_option linter.unusedVariables false
set_option linter.unusedSimpArgs false

def pages (a : Int) : List Int := (List.range a.toNat).map fun (i : Nat) => (i : Int)
def free (a : Int) (l2 l4 : List Int) : List Int := (pages a).filter fun p => !decide (p ∈ l2) && !decide (p ∈ l4)
theorem has_spec (l : List Int) (x : Int) (hl : l.length ≤ 1048576) : Ev (fun k => spec_l03Has.f k l x) (decide (x ∈ l)) := by
  unfold spec_l03Has.f
  have key : ∀ (d i : Nat), i + d = l.length → Ev (fun k => spec_l03Has.l0 k l x (i : Int)) (decide (x ∈ l.drop i)) := by
    intro d
    induction d with
    | zero =>
      intro i hi
      rw [List.drop_eq_nil_of_le (by omega)]
      exact Ev.step (f := fun _ => some _) (fun k => by simp only [spec_l03Has.l0]; rw [if_neg (by omega)]; simp) (Ev.now _)
    | succ d ih =>
      intro i hi
      have hlt : i < l.length := by omega
      rw [List.drop_eq_getElem_cons hlt]
      by_cases e : l[i] = x
      · have : decide (x ∈ l[i] :: l.drop (i + 1)) = true := decide_eq_true (by rw [e]; exact List.mem_cons_self)
        rw [this]
        exact Ev.step (f := fun _ => some _) (fun k => by simp only [spec_l03Has.l0]; rw [if_pos (by omega), if_pos (by omega), rdI l i hlt, if_pos e]) (Ev.now _)
      · have : decide (x ∈ l[i] :: l.drop (i + 1)) = decide (x ∈ l.drop (i + 1)) := decide_eq_decide.mpr (by rw [List.mem_cons]; exact or_iff_right (fun h => e h.symm))
        rw [this]
        refine Ev.step (fun k => ?_) (ih (i + 1) (by omega))
        simp only [spec_l03Has.l0]
        rw [if_pos (by omega), if_pos (by omega), rdI l i hlt, if_neg e, next_ (n := l.length) hlt (by omega)]
  exact key l.length 0 (by omega)
theorem has_impl (l : List Int) (x : Int) (hl : l.length ≤ 1048576) : Ev (fun k => slices_Contains_int_int.f k l x) (decide (x ∈ l)) :=
  Ev.of (slices_Contains_int_int.mono l x) (impl_SpaceOK.has_some l x (by omega))
theorem held_impl (a b : Int) (l2 l4 : List Int) (l : List H) (hl : l.length ≤ 1048576) : Ev (fun k => impl_Space_heldPages.f k a b l2 l l4) (l.map (·.f0)) :=
  Ev.of (impl_Space_heldPages.mono a b l2 l l4) (impl_SpaceOK.held_some a b l2 l4 l (by omega))
theorem range_snoc (p : Int) (h : 0 ≤ p) : pages (p + 1) = pages p ++ [p] := by
  unfold pages
  rw [show (p + 1).toNat = p.toNat + 1 by omega, List.range_succ, List.map_append]
  simp
  omega
theorem free_snoc (p : Int) (h : 0 ≤ p) (l2 l4 : List Int) : free (p + 1) l2 l4 = free p l2 l4 ++ (if (!decide (p ∈ l2) && !decide (p ∈ l4)) = true then [p] else []) := by
  unfold free
  rw [range_snoc p h, List.filter_append, List.filter_cons, List.filter_nil]
theorem free_len (p : Int) (h : 0 ≤ p) (l2 l4 : List Int) : (free p l2 l4).length ≤ p.toNat := by
  unfold free
  refine Nat.le_trans (List.length_filter_le _ _) ?_
  simp [pages]
theorem impl_free (a b : Int) (l2 l4 : List Int) (l3 : List H) (h0 : 0 ≤ a) (h1 : a ≤ 64) (h2 : l2.length ≤ 1048576) (h3 : l3.length ≤ 1048576) : Ev (fun k => impl_Space_free.f k a b l2 l3 l4) (free a l2 (l3.map (·.f0))) := by
  unfold impl_Space_free.f
  refine Ev.bind (held_impl a b l2 l4 l3 h3) ?_
  have h4 : (l3.map (·.f0)).length ≤ 1048576 := by rw [List.length_map]; exact h3
  generalize l3.map (·.f0) = lh at h4
  have key : ∀ (d : Nat) (p : Int), p + d = a → 0 ≤ p → Ev (fun k => impl_Space_free.l0 k (free p l2 lh) lh a p a b l2 l3 l4) (free a l2 lh) := by
    intro d
    induction d with
    | zero =>
      intro p hp hp0
      obtain rfl : p = a := by omega
      exact Ev.step (f := fun _ => some _) (fun k => by simp only [impl_Space_free.l0]; rw [if_neg (by omega)]) (Ev.now _)
    | succ d ih =>
      intro p hp hp0
      have ih' := ih (p + 1) (by omega) (by omega)
      rw [free_snoc p hp0] at ih'
      have hw : wrap64 (p + 1) = p + 1 := wrap_id (by omega) (by omega)
      have hl := free_len p hp0 l2 lh
      refine Ev.step (f := fun k => (slices_Contains_int_int.f k l2 p).bind fun t193 => (if t193 = true then (impl_Space_free.l0 k (free p l2 lh) lh a (wrap64 (p + 1)) a b l2 l3 l4) else ((slices_Contains_int_int.f k lh p).bind fun t194 => (if t194 = true then (impl_Space_free.l0 k (free p l2 lh) lh a (wrap64 (p + 1)) a b l2 l3 l4) else (if (free p l2 lh).length < 17592186044416 then (impl_Space_free.l0 k (free p l2 lh ++ [p]) lh a (wrap64 (p + 1)) a b l2 l3 l4) else (none)))))) (fun k => by simp only [impl_Space_free.l0]; rw [if_pos (by omega)]) ?_
      refine Ev.bind (has_impl l2 p h2) ?_
      rw [hw]
      by_cases e : p ∈ l2
      · simp only [e, decide_true, Bool.not_true, Bool.false_and, Bool.false_eq_true, if_false, List.append_nil] at ih'
        exact Ev.congr (fun k => if_pos (decide_eq_true e)) ih'
      · refine Ev.congr (fun k => if_neg (by simpa using e)) (Ev.bind (has_impl lh p h4) ?_)
        by_cases e' : p ∈ lh
        · simp only [e, e', decide_true, decide_false, Bool.not_true, Bool.not_false, Bool.and_false, Bool.false_eq_true, if_false, List.append_nil] at ih'
          exact Ev.congr (fun k => if_pos (decide_eq_true e')) ih'
        · simp only [e, e', decide_false, Bool.not_false, Bool.and_self, if_true] at ih'
          exact Ev.congr (fun k => (if_neg (by simpa using e')).trans (if_pos (by omega))) ih'
  exact key a.toNat 0 (by omega) (by omega)
theorem spec_free (a b : Int) (l2 l4 : List Int) (l3 : List H) (h0 : 0 ≤ a) (h1 : a ≤ 64) (h2 : l2.length ≤ 1048576) (h3 : l3.length ≤ 1048576) : Ev (fun k => spec_l04Free.f k a b l2 l3 l4) (free a l2 (l3.map (·.f0))) := by
  unfold spec_l04Free.f
  have inner : ∀ (xs : List Int) (p : Int) (r : List Int) (d i : Nat) (u : Bool), i + d = l3.length →
      Ev (fun k => if (u || ((l3.drop i).any fun x => x.f0 == p)) = true then spec_l04Free.l0 k xs (wrap64 (p + 1)) a b l2 l3 l4 else (if xs.length < 17592186044416 then spec_l04Free.l0 k (xs ++ [p]) (wrap64 (p + 1)) a b l2 l3 l4 else none)) r →
      Ev (fun k => spec_l04Free.l1 k xs p u (i : Int) a b l2 l3 l4) r := by
    intro xs p r d
    induction d with
    | zero =>
      intro i u hi hr
      rw [List.drop_eq_nil_of_le (by omega)] at hr
      simp only [List.any_nil, Bool.or_false] at hr
      refine Ev.step (fun k => ?_) hr
      simp only [spec_l04Free.l1]
      rw [if_neg (by omega)]
    | succ d ih =>
      intro i u hi hr
      have hlt : i < l3.length := by omega
      rw [List.drop_eq_getElem_cons hlt, List.any_cons] at hr
      cases u with
      | true =>
        refine Ev.step (fun k => ?_) (ih (i + 1) true (by omega) (by simpa using hr))
        simp only [spec_l04Free.l1]
        rw [if_pos (by omega), if_pos trivial, next_ (n := l3.length) hlt (by omega)]
      | false =>
        refine Ev.step (fun k => ?_) (ih (i + 1) (l3[i].f0 == p) (by omega) (by simpa using hr))
        simp only [spec_l04Free.l1]
        rw [if_pos (by omega), if_neg (by simp), if_pos (by omega), rdH l3 i hlt, next_ (n := l3.length) hlt (by omega)]
  have hmem : ∀ p : Int, (l3.any fun x => x.f0 == p) = decide (p ∈ l3.map (·.f0)) := fun p => by
    rw [Bool.eq_iff_iff, List.any_eq_true, decide_eq_true_eq, List.mem_map]
    simp
  have key : ∀ (d : Nat) (p : Int), p + d = a → 0 ≤ p → Ev (fun k => spec_l04Free.l0 k (free p l2 (l3.map (·.f0))) p a b l2 l3 l4) (free a l2 (l3.map (·.f0))) := by
    intro d
    induction d with
    | zero =>
      intro p hp hp0
      obtain rfl : p = a := by omega
      exact Ev.step (f := fun _ => some _) (fun k => by simp only [spec_l04Free.l0]; rw [if_neg (by omega)]) (Ev.now _)
    | succ d ih =>
      intro p hp hp0
      have ih' := ih (p + 1) (by omega) (by omega)
      rw [free_snoc p hp0] at ih'
      have hw : wrap64 (p + 1) = p + 1 := wrap_id (by omega) (by omega)
      have hl := free_len p hp0 l2 (l3.map (·.f0))
      refine Ev.step (f := fun k => (spec_l03Has.f k l2 p).bind fun t => spec_l04Free.l1 k (free p l2 (l3.map (·.f0))) p t 0 a b l2 l3 l4) (fun k => by simp only [spec_l04Free.l0]; rw [if_pos (by omega)]) ?_
      refine Ev.bind (has_spec l2 p h2) (inner _ p _ l3.length 0 _ (by omega) ?_)
      rw [List.drop_zero, hmem p, hw]
      by_cases e : p ∈ l2
      · simp only [e, decide_true, Bool.not_true, Bool.false_and, Bool.false_eq_true, if_false, List.append_nil] at ih'
        exact Ev.congr (fun k => if_pos (by simp [e])) ih'
      · by_cases e' : p ∈ l3.map (·.f0)
        · simp only [e, e', decide_true, decide_false, Bool.not_true, Bool.not_false, Bool.and_false, Bool.false_eq_true, if_false, List.append_nil] at ih'
          exact Ev.congr (fun k => if_pos (by rw [decide_eq_true e']; simp)) ih'
        · simp only [e, e', decide_false, Bool.not_false, Bool.and_self, if_true] at ih'
          exact Ev.congr (fun k => (if_neg (by rw [decide_eq_false e, decide_eq_false e']; simp)).trans (if_pos (by omega))) ih'
  exact key a.toNat 0 (by omega) (by omega)
end Go.Proofs.Ytcnkacbgcmnokaa.FreeR
/- Both sides' step on a right space comes to the same, and leaves a right space; plain lemmas. -/
namespace Go.Proofs.Ytcnkacbgcmnokaa.SameR
open Go Go.RowKit Go.Proofs.YtcnkacbgcmnokaaW.PrintWords Go.Proofs.YtcnkacbgcmnokaaW.PrintLast Go.Proofs.YtcnkacbgcmnokaaW.PrintMore Go.Proofs.Ytcnkacbgcmnokaa.XR Go.Proofs.Ytcnkacbgcmnokaa.Aid Go.Proofs.Ytcnkacbgcmnokaa.Loops Go.Proofs.Ytcnkacbgcmnokaa.SpaR Go.Proofs.Ytcnkacbgcmnokaa.FreeR
open Go.Proofs.Ytcnkacbgcmnokaa.XR.Act (pg Out)
open Go.Proofs.Ytcnkacbgcmnokaa.XR.Scom (mg)
open Go.Proofs.Ytcnkacbgcmnokaa.XR.Srel (kp)
set_option linter.unusedVariables false
set_option linter.unusedSimpArgs false
/-- By their pages, one behind the other. -/
abbrev Up (l : List S74) : Prop := l.Pairwise fun x y => x.f0 < y.f0
theorem uniq : ∀ (l m : List S74), Up l → Up m → (∀ x, x ∈ l ↔ x ∈ m) → l = m
  | [], [], _, _, _ => rfl
  | [], b :: m, _, _, h => absurd ((h b).2 List.mem_cons_self) (by simp)
  | a :: l, [], _, _, h => absurd ((h a).1 List.mem_cons_self) (by simp)
  | a :: l, b :: m, h1, h2, h => by
    obtain ⟨h1a, h1l⟩ := List.pairwise_cons.1 h1
    obtain ⟨h2b, h2m⟩ := List.pairwise_cons.1 h2
    have e : a = b := by
      rcases List.mem_cons.1 ((h a).1 List.mem_cons_self) with e | ha
      · exact e
      rcases List.mem_cons.1 ((h b).2 List.mem_cons_self) with e | hb
      · exact e.symm
      have := h1a b hb
      have := h2b a ha
      omega
    subst e
    rw [uniq l m h1l h2m (fun x => ⟨fun hx => ?_, fun hx => ?_⟩)]
    · rcases List.mem_cons.1 ((h x).1 (List.mem_cons_of_mem _ hx)) with e | hm
      · subst e
        exact absurd (h1a x hx) (by omega)
      · exact hm
    · rcases List.mem_cons.1 ((h x).2 (List.mem_cons_of_mem _ hx)) with e | hm
      · subst e
        exact absurd (h2b x hx) (by omega)
      · exact hm
theorem mg_mem (E : Int) (x : S74) : ∀ (d : Nat) (hs : List S74) (xs : List Int), hs.length + xs.length ≤ d → (x ∈ mg E d hs xs ↔ x ∈ hs ∨ x ∈ xs.map (pg E))
  | 0, hs, xs, h => by
    obtain rfl : hs = [] := List.eq_nil_of_length_eq_zero (by omega)
    obtain rfl : xs = [] := List.eq_nil_of_length_eq_zero (by omega)
    simp [mg]
  | d + 1, [], [], h => by simp [mg]
  | d + 1, [], y :: ys, h => by
    simp only [mg, List.mem_cons, mg_mem E x d [] ys (by simp at h ⊢; omega), List.map_cons]
    simp
  | d + 1, g :: gs, [], h => by
    simp only [mg, List.mem_cons, mg_mem E x d gs [] (by simp at h ⊢; omega), List.map_nil]
    simp
  | d + 1, g :: gs, y :: ys, h => by
    simp only [mg]
    by_cases c : y < g.f0
    · rw [if_pos c, List.mem_cons, mg_mem E x d (g :: gs) ys (by simp at h ⊢; omega), List.map_cons, List.mem_cons (b := pg E y)]
      constructor
      · rintro (h | h | h)
        · exact .inr (.inl h)
        · exact .inl h
        · exact .inr (.inr h)
      · rintro (h | h | h)
        · exact .inr (.inl h)
        · exact .inl h
        · exact .inr (.inr h)
    · rw [if_neg c, List.mem_cons, mg_mem E x d gs (y :: ys) (by simp at h ⊢; omega), List.mem_cons (b := g), or_assoc]
theorem mg_up (E : Int) : ∀ (d : Nat) (hs : List S74) (xs : List Int), hs.length + xs.length ≤ d → Up hs → xs.Pairwise (· < ·) → (∀ x ∈ hs, x.f0 ∉ xs) → Up (mg E d hs xs)
  | 0, hs, xs, _, _, _, _ => List.Pairwise.nil
  | d + 1, [], [], _, _, _, _ => List.Pairwise.nil
  | d + 1, [], y :: ys, h, h1, h2, h3 => by
    obtain ⟨h2y, h2s⟩ := List.pairwise_cons.1 h2
    simp only [mg]
    refine List.pairwise_cons.2 ⟨fun x hx => ?_, mg_up E d [] ys (by simp at h ⊢; omega) h1 h2s (fun x hx => by simp at hx)⟩
    rcases (mg_mem E x d [] ys (by simp at h ⊢; omega)).1 hx with hm | hm
    · simp at hm
    · obtain ⟨z, hz, rfl⟩ := List.mem_map.1 hm
      exact h2y z hz
  | d + 1, g :: gs, [], h, h1, h2, h3 => by
    obtain ⟨h1g, h1s⟩ := List.pairwise_cons.1 h1
    simp only [mg]
    refine List.pairwise_cons.2 ⟨fun x hx => ?_, mg_up E d gs [] (by simp at h ⊢; omega) h1s h2 (fun x hx => by simp)⟩
    rcases (mg_mem E x d gs [] (by simp at h ⊢; omega)).1 hx with hm | hm
    · exact h1g x hm
    · simp at hm
  | d + 1, g :: gs, y :: ys, h, h1, h2, h3 => by
    obtain ⟨h1g, h1s⟩ := List.pairwise_cons.1 h1
    obtain ⟨h2y, h2s⟩ := List.pairwise_cons.1 h2
    simp only [mg]
    by_cases c : y < g.f0
    · rw [if_pos c]
      refine List.pairwise_cons.2 ⟨fun x hx => ?_, mg_up E d (g :: gs) ys (by simp at h ⊢; omega) h1 h2s (fun x hx hm => h3 x hx (List.mem_cons_of_mem _ hm))⟩
      rcases (mg_mem E x d (g :: gs) ys (by simp at h ⊢; omega)).1 hx with hm | hm
      · rcases List.mem_cons.1 hm with e | hm
        · subst e
          exact c
        · exact Int.lt_trans c (h1g x hm)
      · obtain ⟨z, hz, rfl⟩ := List.mem_map.1 hm
        exact h2y z hz
    · rw [if_neg c]
      have c' : g.f0 < y := by
        have : g.f0 ≠ y := fun e => h3 g List.mem_cons_self (e ▸ List.mem_cons_self)
        omega
      refine List.pairwise_cons.2 ⟨fun x hx => ?_, mg_up E d gs (y :: ys) (by simp at h ⊢; omega) h1s h2 (fun x hx => h3 x (List.mem_cons_of_mem _ hx))⟩
      rcases (mg_mem E x d gs (y :: ys) (by simp at h ⊢; omega)).1 hx with hm | hm
      · exact h1g x hm
      · obtain ⟨z, hz, rfl⟩ := List.mem_map.1 hm
        rcases List.mem_cons.1 hz with e | hz
        · subst e
          exact c'
        · exact Int.lt_trans c' (h2y z hz)
theorem sorted_mem (l : List S74) (x : S74) : x ∈ Sorth.sorted l ↔ x ∈ l := by
  unfold Sorth.sorted
  exact (List.mergeSort_perm l _).mem_iff
theorem sorted_up (l : List S74) (h : (l.map (·.f0)).Nodup) : Up (Sorth.sorted l) := by
  have hp : (Sorth.sorted l).Perm l := List.mergeSort_perm l _
  have h1 : (Sorth.sorted l).Pairwise fun x y => (!decide (y.f0 < x.f0)) = true :=
    List.pairwise_mergeSort (fun a b c h1 h2 => by simp only [Bool.not_eq_true', decide_eq_false_iff_not] at *; omega) (fun a b => by simp only [Bool.or_eq_true, Bool.not_eq_true', decide_eq_false_iff_not]; omega) l
  have h2 : ((Sorth.sorted l).map (·.f0)).Nodup := (hp.map (·.f0)).nodup_iff.2 h
  rw [List.Nodup, List.pairwise_map] at h2
  refine (h1.and h2).imp ?_
  rintro x y ⟨h1, h2⟩
  simp only [Bool.not_eq_true', decide_eq_false_iff_not] at h1
  omega
theorem inj_of : ∀ (l : List S74), (l.map (·.f0)).Nodup → ∀ x ∈ l, ∀ y ∈ l, x.f0 = y.f0 → x = y
  | [], _, x, hx, _, _, _ => by simp at hx
  | a :: l, h, x, hx, y, hy, e => by
    rw [List.map_cons, List.nodup_cons] at h
    rcases List.mem_cons.1 hx with rfl | hx'
    · rcases List.mem_cons.1 hy with rfl | hy'
      · rfl
      · exact absurd (List.mem_map.2 ⟨y, hy', e.symm⟩) h.1
    · rcases List.mem_cons.1 hy with rfl | hy'
      · exact absurd (List.mem_map.2 ⟨x, hx', e⟩) h.1
      · exact inj_of l h.2 x hx' y hy' e
section
variable {T E : Int} {now : List Int} {held : List S74} {pins : List Int}
theorem Good_up (g : SpaR.Good T E now held pins) : Up held := by
  have := g.heldUp
  rw [List.pairwise_map] at this
  exact this
theorem Good_apart (g : SpaR.Good T E now held pins) : ∀ x ∈ held, x.f0 ∉ now := fun x hx => g.apart _ (List.mem_map.2 ⟨x, hx, rfl⟩)
theorem all_nodup (g : SpaR.Good T E now held pins) : ((held ++ now.map (pg E)).map (·.f0)).Nodup := by
  have e : (now.map (pg E)).map (·.f0) = now := by rw [List.map_map]; exact (List.map_congr_left (fun _ _ => rfl)).trans (List.map_id now)
  rw [List.map_append, e, List.nodup_append]
  refine ⟨up_nodup _ g.heldUp, up_nodup _ g.nowUp, fun x hx y hy e => ?_⟩
  subst e
  exact g.apart x hx hy
theorem merged (g : SpaR.Good T E now held pins) : Sorth.sorted (held ++ now.map (pg E)) = mg E (held.length + now.length) held now := by
  refine uniq _ _ (sorted_up _ (all_nodup g)) (mg_up E _ _ _ (Nat.le_refl _) (Good_up g) g.nowUp (Good_apart g)) (fun x => ?_)
  rw [sorted_mem, mg_mem E x _ _ _ (Nat.le_refl _), List.mem_append]
theorem left_is (E : Int) (l : List S74) (pins : List Int) : Rels.left E l pins = l.filter (kp E pins) := by
  unfold Rels.left
  congr 1
  funext x
  unfold Rele.q kp
  rw [Bool.not_and, Bool.not_not]
  congr 1
  rw [← decide_not]
  exact decide_eq_decide.2 (by omega)
theorem len_now (g : SpaR.Good T E now held pins) : now.length ≤ 64 := by
  have := g.a0
  have := g.a1
  have h := few T.toNat now (up_nodup _ g.nowUp) (fun x hx => by have := g.now x hx; omega)
  omega
theorem len_held (g : SpaR.Good T E now held pins) : held.length ≤ 64 := by
  have := g.a0
  have := g.a1
  have h := few T.toNat (held.map (·.f0)) (up_nodup _ g.heldUp) (fun x hx => by have := g.held x hx; omega)
  rw [List.length_map] at h
  omega
theorem free_up (a : Int) (l2 l4 : List Int) : (free a l2 l4).Pairwise (· < ·) := by
  unfold free pages
  refine List.Pairwise.filter _ ?_
  rw [List.pairwise_map]
  exact List.pairwise_lt_range.imp (fun h => by omega)
theorem free_mem {a : Int} {l2 l4 : List Int} {x : Int} (h : x ∈ free a l2 l4) : (0 ≤ x ∧ x ≤ a - 1) ∧ x ∉ l2 ∧ x ∉ l4 := by
  unfold free pages at h
  obtain ⟨h1, h2⟩ := List.mem_filter.1 h
  obtain ⟨i, hi, rfl⟩ := List.mem_map.1 h1
  simp only [Bool.and_eq_true, Bool.not_eq_true', decide_eq_false_iff_not] at h2
  have := List.mem_range.1 hi
  exact ⟨by omega, h2⟩
theorem Good_commit (g : SpaR.Good T E now held pins) (hE : E < 1000000) (m : Nat) (q : S74 → Bool) : SpaR.Good T (E + 1) ((free T now (held.map (·.f0))).take m) ((mg E (held.length + now.length) held now).filter q) pins := by
  have hm : ∀ x ∈ (mg E (held.length + now.length) held now).filter q, x ∈ held ∨ x ∈ now.map (pg E) := fun x hx => (mg_mem E x _ _ _ (Nat.le_refl _)).1 (List.mem_filter.1 hx).1
  have hf0 : ∀ x ∈ (mg E (held.length + now.length) held now).filter q, x.f0 ∈ now ∨ x.f0 ∈ held.map (·.f0) := fun x hx => by
    rcases hm x hx with h | h
    · exact .inr (List.mem_map.2 ⟨x, h, rfl⟩)
    · obtain ⟨z, hz, rfl⟩ := List.mem_map.1 h
      exact .inl hz
  have hu : Up ((mg E (held.length + now.length) held now).filter q) := (mg_up E _ _ _ (Nat.le_refl _) (Good_up g) g.nowUp (Good_apart g)).filter _
  refine ⟨g.a0, g.a1, by have := g.b0; omega, by omega, fun x hx => (free_mem (List.mem_of_mem_take hx)).1, (free_up T now _).sublist (List.take_sublist _ _), fun x hx => ?_, by rw [List.pairwise_map]; exact hu, fun x hx hn => ?_, fun x hx => ?_, g.pinsFew, fun x hx => by have := g.pins x hx; omega⟩
  · obtain ⟨y, hy, rfl⟩ := List.mem_map.1 hx
    rcases hf0 y hy with h | h
    · exact g.now _ h
    · exact g.held _ h
  · obtain ⟨y, hy, rfl⟩ := List.mem_map.1 hx
    have := free_mem (List.mem_of_mem_take hn)
    rcases hf0 y hy with h | h
    · exact this.2.1 h
    · exact this.2.2 h
  · rcases hm x hx with h | h
    · have := g.since x h
      omega
    · obtain ⟨z, hz, rfl⟩ := List.mem_map.1 h
      have := g.b0
      show 0 ≤ E ∧ E ≤ E + 1 - 1
      omega
theorem Good_less (g : SpaR.Good T E now held pins) (q : S74 → Bool) (pins' : List Int) (h : pins'.Sublist pins) : SpaR.Good T E now (held.filter q) pins' :=
  ⟨g.a0, g.a1, g.b0, g.b1, g.now, g.nowUp, fun x hx => g.held x ((List.filter_sublist.map _).subset hx), g.heldUp.sublist (List.filter_sublist.map _), fun x hx => g.apart x ((List.filter_sublist.map _).subset hx), fun x hx => g.since x (List.mem_filter.1 hx).1, Nat.le_trans h.length_le g.pinsFew, fun x hx => g.pins x (h.subset hx)⟩
/-- Both sides' steps. -/
theorem step (g : SpaR.Good T E now held pins) (kind n : Int) : ∃ r : Out, Ev (fun k => Act.f k T E now held pins kind n) r ∧ Ev (fun k => Sstp.f k T E now held pins kind n) r ∧ SpaR.Good T r.E r.now r.held r.pins ∧ r.pages.length ≤ 64 := by
  have l1 := len_now g
  have l2 := len_held g
  have l3 := g.pinsFew
  have b0 := g.b0
  have b1 := g.b1
  have a0 := g.a0
  have a1 := g.a1
  have hc : ∀ k, Sstp.f k T E now held pins kind n = (if kind = 1 then _ else _) := fun k => if_pos ⟨by omega, by omega, by omega⟩
  by_cases k1 : kind = 1
  · obtain ⟨fr, hfr⟩ : ∃ fr, fr = free T now (held.map (·.f0)) := ⟨_, rfl⟩
    have e1 : Ev (fun k => impl_Space_free.f k T E now held pins) fr := by rw [hfr]; exact impl_free T E now pins held (by omega) a1 (by omega) (by omega)
    have e2 : Ev (fun k => spec_l04Free.f k T E now held pins) fr := by rw [hfr]; exact spec_free T E now pins held (by omega) a1 (by omega) (by omega)
    have fl : fr.length ≤ 64 := by rw [hfr]; exact Nat.le_trans (free_len T (by omega) _ _) (by omega)
    have s1 : ∀ k, Act.f k T E now held pins kind n = _ := fun k => by unfold Act.f; exact if_pos k1
    have s2 : ∀ k, Sstp.f k T E now held pins kind n = _ := fun k => (hc k).trans (if_pos k1)
    by_cases w : 0 ≤ n ∧ n ≤ 64
    · have w1 : impl_within.f n 0 64 = some true := by unfold impl_within.f; rw [if_pos w.1, decide_eq_true w.2]
      have w2 : spec_l01In.f n 0 64 = some true := by unfold spec_l01In.f; rw [if_pos w.1, decide_eq_true w.2]
      by_cases c : (fr.length : Int) < n ∨ E = 1000000
      · refine ⟨⟨E, now, held, pins, 7, []⟩, Ev.congr s1 (Ev.bind e1 (Ev.congr (f := fun _ => some _) (fun k => ?_) (Ev.now _))), Ev.congr s2 (Ev.bind e2 (Ev.congr (f := fun _ => some _) (fun k => ?_) (Ev.now _))), g, by simp⟩
        · rw [w1, Option.bind_some, if_pos rfl, if_pos (by omega)]
        · rw [w2, Option.bind_some, if_pos rfl, if_pos c]
      · have hE : wrap64 (E + 1) = E + 1 := wrap_id (by omega) (by omega)
        have gc := Good_commit g (by omega) n.toNat (kp (E + 1) pins)
        rw [← hfr] at gc
        have hs : ∀ x ∈ held ++ now.map (pg E), 0 ≤ x.f0 ∧ x.f0 < 4294967296 := fun x hx => by
          have : 0 ≤ x.f0 ∧ x.f0 ≤ T - 1 := by
            rcases List.mem_append.1 hx with h | h
            · exact g.held _ (List.mem_map.2 ⟨x, h, rfl⟩)
            · obtain ⟨z, hz, rfl⟩ := List.mem_map.1 h
              exact g.now z hz
          omega
        have hd : ∀ x ∈ held ++ now.map (pg E), ∀ y ∈ held ++ now.map (pg E), x.f0 = y.f0 → x = y := fun x hx y hy e => by
          have hn := all_nodup g
          exact inj_of _ hn x hx y hy e
        refine ⟨⟨E + 1, fr.take n.toNat, (mg E (held.length + now.length) held now).filter (kp (E + 1) pins), pins, 0, fr.take n.toNat⟩, Ev.congr s1 (Ev.bind e1 (Ev.congr (f := fun _ => some _) (fun k => ?_) (Ev.now _))), Ev.congr s2 (Ev.bind e2 (Ev.congr (f := fun _ => some _) (fun k => ?_) (Ev.now _))), gc, Nat.le_trans (List.length_take_le _ _) (by omega)⟩
        · rw [w1, Option.bind_some, if_pos rfl, if_neg (by omega), if_pos ⟨w.1, by omega, by omega, by omega, hs, hd⟩, hE, merged g, left_is]
        · rw [w2, Option.bind_some, if_pos rfl, if_neg c, if_pos ⟨w.1, by omega⟩, hE]
    · have w1 : impl_within.f n 0 64 = some false := by
        unfold impl_within.f
        by_cases h : n ≥ 0
        · rw [if_pos h, decide_eq_false (by omega)]
        · rw [if_neg h]
      have w2 : spec_l01In.f n 0 64 = some false := by
        unfold spec_l01In.f
        by_cases h : n ≥ 0
        · rw [if_pos h, decide_eq_false (by omega)]
        · rw [if_neg h]
      refine ⟨⟨E, now, held, pins, 4, []⟩, Ev.congr s1 (Ev.bind e1 (Ev.congr (f := fun _ => some _) (fun k => ?_) (Ev.now _))), Ev.congr s2 (Ev.bind e2 (Ev.congr (f := fun _ => some _) (fun k => ?_) (Ev.now _))), g, by simp⟩
      · rw [w1, Option.bind_some, if_neg (by decide)]
      · rw [w2, Option.bind_some, if_neg (by decide)]
  by_cases k2 : kind = 2
  · have s1 : ∀ k, Act.f k T E now held pins kind n = _ := fun k => by unfold Act.f; exact (if_neg k1).trans (if_pos k2)
    have s2 : ∀ k, Sstp.f k T E now held pins kind n = _ := fun k => (hc k).trans ((if_neg k1).trans (if_pos k2))
    by_cases c : pins.length = 4
    · exact ⟨⟨E, now, held, pins, 7, []⟩, Ev.congr s1 (Ev.congr (fun k => if_pos (by omega)) (Ev.now _)), Ev.congr s2 (Ev.congr (fun k => if_pos c) (Ev.now _)), g, by simp⟩
    · refine ⟨⟨E, now, held, pins ++ [E], 0, now⟩, Ev.congr s1 (Ev.congr (fun k => (if_neg (by omega)).trans (if_pos (by omega))) (Ev.now _)), Ev.congr s2 (Ev.congr (fun k => if_neg c) (Ev.now _)), ?_, l1⟩
      exact ⟨g.a0, g.a1, g.b0, g.b1, g.now, g.nowUp, g.held, g.heldUp, g.apart, g.since, by simp; omega, fun x hx => by
        rcases List.mem_append.1 hx with h | h
        · exact g.pins x h
        · rw [List.mem_singleton.1 h]; exact ⟨b0, Int.le_refl _⟩⟩
  by_cases k3 : kind = 3
  · have s1 : ∀ k, Act.f k T E now held pins kind n = _ := fun k => by unfold Act.f; exact (if_neg k1).trans ((if_neg k2).trans ((if_pos k3).trans (if_pos (by omega))))
    have s2 : ∀ k, Sstp.f k T E now held pins kind n = _ := fun k => (hc k).trans ((if_neg k1).trans ((if_neg k2).trans (if_pos k3)))
    by_cases w : 0 ≤ n ∧ n ≤ (pins.length : Int) - 1
    · have w1 : impl_within.f n 0 ((pins.length : Int) - 1) = some true := by unfold impl_within.f; rw [if_pos w.1, decide_eq_true w.2]
      have w2 : spec_l01In.f n 0 ((pins.length : Int) - 1) = some true := by unfold spec_l01In.f; rw [if_pos w.1, decide_eq_true w.2]
      refine ⟨⟨E, now, held.filter (kp E (pins.take n.toNat ++ pins.drop (n.toNat + 1))), pins.take n.toNat ++ pins.drop (n.toNat + 1), 0, []⟩, Ev.congr s1 (Ev.congr (f := fun _ => some _) (fun k => ?_) (Ev.now _)), Ev.congr s2 (Ev.congr (f := fun _ => some _) (fun k => ?_) (Ev.now _)), ?_, by simp⟩
      · rw [w1, Option.bind_some, if_pos rfl, if_pos ⟨w.1, by omega⟩, left_is, List.eraseIdx_eq_take_drop_succ]
      · rw [w2, Option.bind_some, if_pos rfl, if_pos ⟨w.1, by omega⟩]
      · refine Good_less g _ _ ?_
        rw [← List.eraseIdx_eq_take_drop_succ]
        exact List.eraseIdx_sublist _ _
    · have w1 : impl_within.f n 0 ((pins.length : Int) - 1) = some false := by
        unfold impl_within.f
        by_cases h : n ≥ 0
        · rw [if_pos h, decide_eq_false (by omega)]
        · rw [if_neg h]
      have w2 : spec_l01In.f n 0 ((pins.length : Int) - 1) = some false := by
        unfold spec_l01In.f
        by_cases h : n ≥ 0
        · rw [if_pos h, decide_eq_false (by omega)]
        · rw [if_neg h]
      refine ⟨⟨E, now, held, pins, 5, []⟩, Ev.congr s1 (Ev.congr (f := fun _ => some _) (fun k => ?_) (Ev.now _)), Ev.congr s2 (Ev.congr (f := fun _ => some _) (fun k => ?_) (Ev.now _)), g, by simp⟩
      · rw [w1, Option.bind_some, if_neg (by decide)]
      · rw [w2, Option.bind_some, if_neg (by decide)]
  exact ⟨⟨E, now, held, pins, 3, []⟩, Ev.congr (f := fun _ => some _) (fun k => by unfold Act.f; exact (if_neg k1).trans ((if_neg k2).trans (if_neg k3))) (Ev.now _), Ev.congr (f := fun _ => some _) (fun k => (hc k).trans ((if_neg k1).trans ((if_neg k2).trans (if_neg k3)))) (Ev.now _), g, by simp⟩
end
end Go.Proofs.Ytcnkacbgcmnokaa.SameR
