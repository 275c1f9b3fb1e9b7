/- The reference's order and the program's: one takes the least free node, the other the first of the sorted ones; plain lemmas. -/
import Derived.Test.YtnoalobmkecjpaaXY2
import Derived.Test.YtnoalobmkecjpaaXY4
import Derived.Test.YtnoalobmkecjpaaXY5
import Derived.Test.YtnoalobmkecjpaaXY3
import Derived.Test.YtnoalobmkecjpaaXYHSerialOrder
import Derived.Test.YtnoalobmkecjpaaLoops
namespace Go.Proofs.Ytnoalobmkecjpaa.SerY
open Go Go.RowKit Go.Proofs.Ytnoalobmkecjpaa.XY Go.Proofs.YtnoalobmkecjpaaW.PrintWords Go.Proofs.YtnoalobmkecjpaaW.PrintLast Go.Proofs.YtnoalobmkecjpaaW.PrintMore Go.Proofs.Ytnoalobmkecjpaa.Aid Go.Proofs.Ytnoalobmkecjpaa.Loops Go.Proofs.Ytnoalobmkecjpaa.Xtra
set_option linter.unusedVariables false
set_option linter.unusedSimpArgs false

abbrev E := S59
theorem rdE (xs : List E) (i : Nat) (h : i < xs.length) : rd_T59 xs (i : Int) = xs[i] := by
  simp [rd_T59, List.getD_eq_getElem?_getD, List.getElem?_eq_getElem h]
theorem rdI (xs : List Int) (i : Nat) (h : i < xs.length) : rd xs (i : Int) = xs[i] := by
  simp [rd, List.getD_eq_getElem?_getD, List.getElem?_eq_getElem h]
theorem has_spec (l : List Int) (x : Int) (hl : l.length ≤ 1048576) : Ev (fun k => spec_l03Has.f k l x) (decide (x ∈ l)) := by
  unfold spec_l03Has.f
  have key : ∀ (d i : Nat), i + d = l.length → Ev (fun k => spec_l03Has.l0 k l x (i : Int)) (decide (x ∈ l.drop i)) := by
    intro d
    induction d with
    | zero =>
      intro i hi
      rw [List.drop_eq_nil_of_le (by omega)]
      exact Ev.step (f := fun _ => some _) (fun k => by simp only [spec_l03Has.l0]; rw [if_neg (by omega)]; simp) (Ev.now _)
    | succ d ih =>
      intro i hi
      have hlt : i < l.length := by omega
      rw [List.drop_eq_getElem_cons hlt]
      by_cases e : l[i] = x
      · have : decide (x ∈ l[i] :: l.drop (i + 1)) = true := decide_eq_true (by rw [e]; exact List.mem_cons_self)
        rw [this]
        exact Ev.step (f := fun _ => some _) (fun k => by simp only [spec_l03Has.l0]; rw [if_pos (by omega), if_pos (by omega), rdI l i hlt, if_pos e]) (Ev.now _)
      · have : decide (x ∈ l[i] :: l.drop (i + 1)) = decide (x ∈ l.drop (i + 1)) := decide_eq_decide.mpr (by rw [List.mem_cons]; exact or_iff_right (fun h => e h.symm))
        rw [this]
        refine Ev.step (fun k => ?_) (ih (i + 1) (by omega))
        simp only [spec_l03Has.l0]
        rw [if_pos (by omega), if_pos (by omega), rdI l i hlt, if_neg e, next_ (n := l.length) hlt (by omega)]
  exact key l.length 0 (by omega)
theorem has_impl (l : List Int) (x : Int) (hl : l.length ≤ 1048576) : Ev (fun k => slices_Contains_int_int.f k l x) (decide (x ∈ l)) :=
  Ev.of (slices_Contains_int_int.mono l x) (impl_SerialOrder.has_some l x (by omega))
/-- A number stands there twice. -/
def tw (l : List Int) : Bool := (List.range l.length).any fun i => decide (rd l (i : Int) ∈ l.take i)
theorem range_from (n i : Nat) (h : i < n) : (List.range n).drop i = i :: (List.range n).drop (i + 1) := by
  rw [List.drop_eq_getElem_cons (by simpa using h)]
  simp
theorem tw_impl (l : List Int) (hl : l.length ≤ 1048576) : Ev (fun k => impl_isTwice.f k l) (tw l) := by
  unfold impl_isTwice.f tw
  have key : ∀ (d i : Nat), i + d = l.length → Ev (fun k => impl_isTwice.l0 k l l (l.length : Int) (i : Int)) (((List.range l.length).drop i).any fun i => decide (rd l (i : Int) ∈ l.take i)) := by
    intro d
    induction d with
    | zero =>
      intro i hi
      rw [List.drop_eq_nil_of_le (by simp; omega)]
      exact Ev.step (f := fun _ => some _) (fun k => by simp only [impl_isTwice.l0]; rw [if_neg (by omega)]; rfl) (Ev.now _)
    | succ d ih =>
      intro i hi
      have hlt : i < l.length := by omega
      rw [range_from l.length i hlt, List.any_cons]
      refine Ev.step (f := fun k => (slices_Contains_int_int.f k (l.take (i : Int).toNat) (rd l (i : Int))).bind fun t112 => (if t112 = true then (some true) else (impl_isTwice.l0 k l l (l.length : Int) (wrap64 ((i : Int) + 1))))) (fun k => ?_) ?_
      · simp only [impl_isTwice.l0]
        rw [if_pos (by omega), if_pos (by omega), if_pos (by omega), if_pos (by omega)]
      · rw [Int.toNat_natCast, next_ (n := l.length) hlt (by omega)]
        refine Ev.bind (has_impl (l.take i) _ (by rw [List.length_take]; omega)) ?_
        cases decide (rd l (i : Int) ∈ l.take i) with
        | true => exact Ev.congr (fun _ => if_pos rfl) (Ev.now _)
        | false => exact Ev.congr (fun _ => if_neg (by simp)) (ih (i + 1) (by omega))
  exact key l.length 0 (by omega)
theorem tw_nodup (l : List Int) (h : tw l = false) : l.Nodup := by
  unfold tw at h
  rw [List.any_eq_false] at h
  unfold List.Nodup
  rw [List.pairwise_iff_getElem]
  intro i j hi hj hij e
  have := h j (by simpa using hj)
  rw [decide_eq_true_eq, rdI l j hj, ← e] at this
  exact this (by
    rw [List.mem_take_iff_getElem]
    exact ⟨i, by omega, rfl⟩)
/-! Free nodes -/
def free (es : List E) (L : List Int) (n : Int) : Bool := impl_SerialOrder.q1 es L n
theorem free_perm (es : List E) {L S : List Int} (h : L.Perm S) (n : Int) : free es L n = free es S n := by
  unfold free impl_SerialOrder.q1
  have : impl_SerialOrder.q2 n L = impl_SerialOrder.q2 n S := by
    funext e
    unfold impl_SerialOrder.q2
    rw [decide_eq_decide.mpr h.mem_iff]
  rw [this]
/-- What the reference looks for. -/
def Best (es : List E) (L : List Int) (b : Int) (i : Nat) : Prop :=
  (b = -1 ∧ ∀ j, j < i → free es L (rd L (j : Int)) = false) ∨ ∃ n : Nat, n < i ∧ b = (n : Int) ∧ free es L (rd L (n : Int)) = true ∧ ∀ j, j < i → free es L (rd L (j : Int)) = true → rd L (n : Int) ≤ rd L (j : Int)
theorem free_ev (es : List E) (hes : es.length ≤ 1048576) (L out : List Int) (b : Int) (i : Nat) (hi : i < L.length) (hL : L.length ≤ 1048576) (r : List Int × Bool) (F : Bool → Nat → Option (List Int × Bool))
    (hF : ∀ k u, spec_l08Order.l2 (k + 1) es L out b (i : Int) u (es.length : Int) = F u k)
    (hr : Ev (fun k => F (free es L (rd L (i : Int))) k) r) : Ev (fun k => spec_l08Order.l2 k es L out b (i : Int) true 0) r := by
  have key : ∀ (d m : Nat) (u : Bool), m + d = es.length → Ev (fun k => F (u && !(es.drop m).any (impl_SerialOrder.q2 (rd L (i : Int)) L)) k) r → Ev (fun k => spec_l08Order.l2 k es L out b (i : Int) u (m : Int)) r := by
    intro d
    induction d with
    | zero =>
      intro m u hm hr
      rw [List.drop_eq_nil_of_le (by omega)] at hr
      simp only [List.any_nil, Bool.not_false, Bool.and_true] at hr
      obtain rfl : m = es.length := by omega
      exact Ev.step (fun k => hF k u) hr
    | succ d ih =>
      intro m u hm hr
      have hlt : m < es.length := by omega
      rw [List.drop_eq_getElem_cons hlt, List.any_cons] at hr
      cases u with
      | false =>
        refine Ev.step (fun k => ?_) (ih (m + 1) false (by omega) (by simpa using hr))
        simp only [spec_l08Order.l2]
        rw [if_pos (by omega), if_neg (by simp), next_ (n := es.length) hlt (by omega)]
      | true =>
        by_cases e : es[m].f1 = rd L (i : Int)
        · have hq : impl_SerialOrder.q2 (rd L (i : Int)) L es[m] = decide (es[m].f0 ∈ L) := by
            unfold impl_SerialOrder.q2
            rw [e]
            simp
          rw [hq] at hr
          refine Ev.step (f := fun k => (spec_l03Has.f k L es[m].f0).bind fun t150 => spec_l08Order.l2 k es L out b (i : Int) (!t150) ((m + 1 : Nat) : Int)) (fun k => ?_) ?_
          · simp only [spec_l08Order.l2]
            rw [if_pos (by omega), if_pos trivial, if_pos (by omega), if_pos (by omega), if_pos (by omega), rdE es m hlt, if_pos e, next_ (n := es.length) hlt (by omega)]
          · refine Ev.bind (has_spec L _ hL) (ih (m + 1) _ (by omega) ?_)
            simpa [Bool.not_or] using hr
        · have hq : impl_SerialOrder.q2 (rd L (i : Int)) L es[m] = false := by
            unfold impl_SerialOrder.q2
            rw [beq_eq_false_iff_ne.mpr e, Bool.false_and]
          rw [hq, Bool.false_or] at hr
          refine Ev.step (fun k => ?_) (ih (m + 1) true (by omega) hr)
          simp only [spec_l08Order.l2]
          rw [if_pos (by omega), if_pos trivial, if_pos (by omega), if_pos (by omega), if_pos (by omega), rdE es m hlt, if_neg e, next_ (n := es.length) hlt (by omega)]
          rfl
  refine key es.length 0 true (by omega) ?_
  rw [List.drop_zero, Bool.true_and]
  exact hr
theorem best_ev (es : List E) (hes : es.length ≤ 1048576) (L out : List Int) (hL : L.length ≤ 1048576) (r : List Int × Bool)
    (hr : ∀ b, Best es L b L.length → Ev (fun k => spec_l08Order.l1 (k + 1) es L out b (L.length : Int)) r) : Ev (fun k => spec_l08Order.l1 k es L out (-1) 0) r := by
  have key : ∀ (d i : Nat) (b : Int), i + d = L.length → Best es L b i → Ev (fun k => spec_l08Order.l1 k es L out b (i : Int)) r := by
    intro d
    induction d with
    | zero =>
      intro i b hi hb
      obtain rfl : i = L.length := by omega
      exact Ev.step (fun _ => rfl) (hr b hb)
    | succ d ih =>
      intro i b hi hb
      have hlt : i < L.length := by omega
      have hw := next_ (n := L.length) hlt (by omega)
      refine Ev.step (f := fun k => spec_l08Order.l2 k es L out b (i : Int) true 0) (fun k => by simp only [spec_l08Order.l1]; rw [if_pos (by omega)]) ?_
      refine free_ev es hes L out b i hlt hL r (fun u k => (if u = true then (if b < 0 then (spec_l08Order.l1 k es L out (i : Int) (wrap64 ((i : Int) + 1))) else (if 0 ≤ (i : Int) then (if (i : Int) < (L.length : Int) then (if 0 ≤ b then (if b < (L.length : Int) then (if (rd L (i : Int)) < (rd L b) then (spec_l08Order.l1 k es L out (i : Int) (wrap64 ((i : Int) + 1))) else (spec_l08Order.l1 k es L out b (wrap64 ((i : Int) + 1)))) else (none)) else (none)) else (none)) else (none))) else (spec_l08Order.l1 k es L out b (wrap64 ((i : Int) + 1))))) (fun k u => ?_) ?_
      · simp only [spec_l08Order.l2]
        rw [if_neg (by omega)]
      · rw [hw]
        cases hfr : free es L (rd L (i : Int)) with
        | false =>
          refine Ev.congr (fun _ => if_neg (by simp)) (ih (i + 1) b (by omega) ?_)
          rcases hb with ⟨e, h⟩ | ⟨n, hn, e, hf, h⟩
          · refine .inl ⟨e, fun j hj => ?_⟩
            by_cases ej : j = i
            · rw [ej]; exact hfr
            · exact h j (by omega)
          · refine .inr ⟨n, by omega, e, hf, fun j hj hfj => ?_⟩
            by_cases ej : j = i
            · rw [ej, hfr] at hfj; cases hfj
            · exact h j (by omega) hfj
        | true =>
          refine Ev.congr (fun _ => if_pos rfl) ?_
          rcases hb with ⟨e, h⟩ | ⟨n, hn, e, hf, h⟩
          · refine Ev.congr (fun _ => if_pos (by omega)) (ih (i + 1) i (by omega) (.inr ⟨i, by omega, rfl, hfr, fun j hj hfj => ?_⟩))
            by_cases ej : j = i
            · rw [ej]; exact Int.le_refl _
            · rw [h j (by omega)] at hfj; cases hfj
          · subst e
            refine Ev.congr (fun _ => (if_neg (by omega)).trans ((if_pos (by omega)).trans ((if_pos (by omega)).trans ((if_pos (by omega)).trans (if_pos (by omega)))))) ?_
            by_cases hlt2 : rd L (i : Int) < rd L (n : Int)
            · refine Ev.congr (fun _ => if_pos hlt2) (ih (i + 1) i (by omega) (.inr ⟨i, by omega, rfl, hfr, fun j hj hfj => ?_⟩))
              by_cases ej : j = i
              · rw [ej]; exact Int.le_refl _
              · have := h j (by omega) hfj
                omega
            · refine Ev.congr (fun _ => if_neg hlt2) (ih (i + 1) n (by omega) (.inr ⟨n, by omega, rfl, hf, fun j hj hfj => ?_⟩))
              by_cases ej : j = i
              · rw [ej]; omega
              · exact h j (by omega) hfj
  exact key L.length 0 (-1) (by omega) (.inl ⟨rfl, fun j hj => absurd hj (Nat.not_lt_zero _)⟩)
/-- The first free one of the sorted. -/
theorem first_is (es : List E) (S : List Int) : (impl_SerialOrder.first es S = -1 ∧ ∀ j, j < S.length → free es S (rd S (j : Int)) = false) ∨ ∃ n : Nat, n < S.length ∧ impl_SerialOrder.first es S = (n : Int) ∧ free es S (rd S (n : Int)) = true ∧ ∀ j, j < n → free es S (rd S (j : Int)) = false := by
  have hrd : ∀ j : Nat, S.getD j 0 = rd S (j : Int) := fun j => rfl
  by_cases h : ∀ j, j < S.length → free es S (rd S (j : Int)) = false
  · exact .inl ⟨idx_miss _ S 0 h, h⟩
  · have hex : ∃ d, ∃ n, n ≤ d ∧ n < S.length ∧ free es S (rd S (n : Int)) = true := by
      by_cases hx : ∃ n, n < S.length ∧ free es S (rd S (n : Int)) = true
      · obtain ⟨n, h1, h2⟩ := hx
        exact ⟨n, n, Nat.le_refl _, h1, h2⟩
      · exact absurd (fun j hj => by
          cases hf : free es S (rd S (j : Int)) with
          | false => rfl
          | true => exact absurd ⟨j, hj, hf⟩ hx) h
    have least : ∀ d, (∃ n, n ≤ d ∧ n < S.length ∧ free es S (rd S (n : Int)) = true) → ∃ n, n < S.length ∧ free es S (rd S (n : Int)) = true ∧ ∀ j, j < n → free es S (rd S (j : Int)) = false := by
      intro d
      induction d with
      | zero =>
        rintro ⟨n, h1, h2, h3⟩
        obtain rfl : n = 0 := by omega
        exact ⟨0, h2, h3, fun j hj => absurd hj (Nat.not_lt_zero _)⟩
      | succ d ih =>
        intro hx
        by_cases hd : ∃ n, n ≤ d ∧ n < S.length ∧ free es S (rd S (n : Int)) = true
        · exact ih hd
        · obtain ⟨n, h1, h2, h3⟩ := hx
          refine ⟨n, h2, h3, fun j hj => ?_⟩
          cases hf : free es S (rd S (j : Int)) with
          | false => rfl
          | true => exact absurd ⟨j, by omega, by omega, hf⟩ hd
    obtain ⟨d, hd⟩ := hex
    obtain ⟨n, h1, h2, h3⟩ := least d hd
    exact .inr ⟨n, h1, idx_hit _ S 0 n h1 h2 h3, h2, h3⟩
theorem take_drop_erase {L : List Int} {n : Nat} (h : n < L.length) : L.take n ++ L.drop (n + 1) = L.eraseIdx n := (List.eraseIdx_eq_take_drop_succ ..).symm
theorem cons_erase : ∀ (L : List Int) (n : Nat) (h : n < L.length), L.Perm (L[n] :: L.eraseIdx n)
  | x :: xs, 0, _ => by simp
  | x :: xs, n + 1, h => by
    simp only [List.getElem_cons_succ, List.eraseIdx_cons_succ]
    exact ((cons_erase xs n (by simpa using h)).cons x).trans (List.Perm.swap ..)
theorem perm_idx {L S : List Int} (h : L.Perm S) {n m : Nat} (hn : n < L.length) (hm : m < S.length) (e : L[n] = S[m]) : (L.eraseIdx n).Perm (S.eraseIdx m) := by
  have h1 := cons_erase L n hn
  have h2 := cons_erase S m hm
  rw [e] at h1
  exact List.Perm.cons_inv ((h1.symm.trans h).trans h2)
theorem nodup_inj {L : List Int} (h : L.Nodup) {n m : Nat} (hn : n < L.length) (hm : m < L.length) (e : L[n] = L[m]) : n = m := by
  unfold List.Nodup at h
  rw [List.pairwise_iff_getElem] at h
  rcases Nat.lt_trichotomy n m with h1 | h1 | h1
  · exact absurd e (h n m hn hm h1)
  · exact h1
  · exact absurd e.symm (h m n hm hn h1)
theorem end_none (es : List E) (L out : List Int) (k : Nat) : spec_l08Order.l1 (k + 1) es L out (-1) (L.length : Int) = some ([], false) := by
  simp only [spec_l08Order.l1]
  rw [if_neg (Int.lt_irrefl _), if_pos (by decide)]
theorem end_some (es : List E) (L out : List Int) (n : Nat) (hn : n < L.length) (hL : L.length ≤ 1048576) (ho : out.length ≤ 1048576) (k : Nat) :
    spec_l08Order.l1 (k + 1) es L out (n : Int) (L.length : Int) = spec_l08Order.l0 k es (L.take n ++ L.drop (n + 1)) (out ++ [rd L (n : Int)]) := by
  have hw : wrap64 ((n : Int) + 1) = ((n + 1 : Nat) : Int) := next_ (n := L.length) hn (by omega)
  have hl1 : (L.take n).length ≤ 1048576 := by rw [List.length_take]; omega
  have hl2 : (L.drop (n + 1)).length ≤ 1048576 := by rw [List.length_drop]; omega
  simp only [spec_l08Order.l1]
  rw [if_neg (Int.lt_irrefl _)]
  simp only [Option.bind_some, List.nil_append, List.length_nil, hw, Int.toNat_natCast]
  rw [if_neg (by omega), if_pos (by omega), if_pos (by omega), if_pos (by omega), if_pos (by omega), if_pos (by omega), if_pos (by omega), if_pos (by omega), if_pos (by omega)]
theorem order_both (es : List E) (hes : es.length ≤ 1048576) : ∀ (d : Nat) (L S out : List Int), L.length = d → L.Perm S → S.Pairwise (· < ·) → L.length + out.length ≤ 1048576 →
    ∃ a ok, Ev (fun k => spec_l08Order.l0 k es L out) (a, ok) ∧ impl_SerialOrder.go es d S out = (if ok = true then (a, 0) else ([], 15)) ∧ a.length ≤ L.length + out.length := by
  intro d
  induction d with
  | zero =>
    intro L S out hd hp hs hb
    obtain rfl : L = [] := List.length_eq_zero_iff.1 hd
    obtain rfl : S = [] := hp.nil_eq.symm
    exact ⟨out, true, Ev.step (f := fun _ => some _) (fun k => by simp only [spec_l08Order.l0]; rw [if_neg (by simp)]) (Ev.now _), by rw [impl_SerialOrder.go_nil]; rfl, by simp⟩
  | succ d ih =>
    intro L S out hd hp hs hb
    have hSl : S.length = d + 1 := by rw [← hp.length_eq, hd]
    rw [impl_SerialOrder.go_step es d S out (by omega)]
    have hstart : ∀ r, Ev (fun k => spec_l08Order.l1 k es L out (-1) 0) r → Ev (fun k => spec_l08Order.l0 k es L out) r := fun r h =>
      Ev.step (fun k => by simp only [spec_l08Order.l0]; rw [if_pos (by omega)]) h
    have inS : ∀ n (hn : n < L.length), ∃ p, ∃ hp : p < S.length, S[p] = L[n] := fun n hn => by
      have : L[n] ∈ S := hp.mem_iff.1 (List.getElem_mem hn)
      obtain ⟨p, h1, h2⟩ := List.getElem_of_mem this
      exact ⟨p, h1, h2⟩
    have inL : ∀ n (hn : n < S.length), ∃ p, ∃ hp : p < L.length, L[p] = S[n] := fun n hn => by
      have : S[n] ∈ L := hp.mem_iff.2 (List.getElem_mem hn)
      obtain ⟨p, h1, h2⟩ := List.getElem_of_mem this
      exact ⟨p, h1, h2⟩
    rcases first_is es S with ⟨e, hno⟩ | ⟨m, hm, e, hfm, hmin⟩
    · rw [e, if_pos (by omega)]
      refine ⟨[], false, hstart _ (best_ev es hes L out (by omega) _ (fun b hb => ?_)), rfl, by simp⟩
      · rcases hb with ⟨rfl, _⟩ | ⟨n, hn, _, hf, _⟩
        · exact Ev.congr (fun k => end_none es L out k) (Ev.now _)
        · obtain ⟨p, hp1, hp2⟩ := inS n hn
          have := hno p hp1
          rw [rdI S p hp1, hp2, ← free_perm es hp, ← rdI L n hn, hf] at this
          cases this
    · rw [e, if_neg (by omega), Int.toNat_natCast]
      obtain ⟨p, hp1, hp2⟩ := inL m hm
      have hfp : free es L (rd L (p : Int)) = true := by
        rw [rdI L p hp1, hp2, free_perm es hp, ← rdI S m hm]
        exact hfm
      have hbest : ∀ b, Best es L b L.length → ∃ n : Nat, ∃ hn : n < L.length, b = (n : Int) ∧ L[n] = S[m] := by
        intro b hb
        rcases hb with ⟨rfl, hno⟩ | ⟨n, hn, rfl, hf, hle⟩
        · rw [hno p hp1] at hfp
          cases hfp
        · refine ⟨n, hn, rfl, ?_⟩
          have h1 := hle p hp1 hfp
          rw [rdI L n hn, rdI L p hp1, hp2] at h1
          obtain ⟨q, hq1, hq2⟩ := inS n hn
          have hfq : free es S (rd S (q : Int)) = true := by
            rw [rdI S q hq1, hq2, ← free_perm es hp, ← rdI L n hn]
            exact hf
          have hqm : m ≤ q := by
            by_cases h : q < m
            · rw [hmin q h] at hfq
              cases hfq
            · omega
          rw [List.pairwise_iff_getElem] at hs
          by_cases hqe : q = m
          · subst hqe
            exact hq2.symm
          · have := hs m q hm hq1 (by omega)
            omega
      have hL1 : ∀ n, n < L.length → (L.eraseIdx n).length = d := fun n hn => by
        rw [List.length_eraseIdx_of_lt hn]
        omega
      have hS1 : (S.eraseIdx m).Pairwise (· < ·) := hs.sublist (List.eraseIdx_sublist ..)
      -- one way: the answer for the least one
      obtain ⟨n0, hn0, -, hne0⟩ : ∃ n : Nat, ∃ hn : n < L.length, (0 : Int) = 0 ∧ L[n] = S[m] := ⟨p, hp1, rfl, hp2⟩
      obtain ⟨a, ok, h1, h2, h3⟩ := ih (L.eraseIdx n0) (S.eraseIdx m) (out ++ [rd S (m : Int)]) (hL1 n0 hn0) (perm_idx hp hn0 hm hne0) hS1 (by rw [hL1 n0 hn0, List.length_append, List.length_singleton]; omega)
      refine ⟨a, ok, hstart _ (best_ev es hes L out (by omega) _ (fun b hb => ?_)), h2, by rw [hL1 n0 hn0, List.length_append, List.length_singleton] at h3; omega⟩
      · obtain ⟨n, hn, rfl, hne⟩ := hbest b hb
        have hnn : n = n0 := by
          have hnd : L.Nodup := hp.nodup_iff.2 (by
            unfold List.Nodup
            exact hs.imp (fun h e => by omega))
          exact nodup_inj hnd hn hn0 (hne.trans hne0.symm)
        subst hnn
        refine Ev.congr (fun k => ?_) h1
        rw [end_some es L out n hn (by omega) (by omega) k, take_drop_erase hn, rdI L n hn, hne, ← rdI S m hm]
/-! The two functions -/
def sorted (l : List Int) : List Int := l.mergeSort fun x y => decide (x ≤ y)
theorem sorted_perm (l : List Int) : l.Perm (sorted l) := (List.mergeSort_perm l _).symm
theorem sorted_up (l : List Int) (h : l.Nodup) : (sorted l).Pairwise (· < ·) := by
  have h1 : (sorted l).Pairwise (fun a b => decide (a ≤ b) = true) := List.pairwise_mergeSort (fun a b c h h' => by simp only [decide_eq_true_eq] at *; omega) (fun a b => by simp only [Bool.or_eq_true, decide_eq_true_eq]; omega) l
  have h2 : (sorted l).Nodup := (sorted_perm l).nodup_iff.1 h
  exact List.Pairwise.imp (R := fun a b => decide (a ≤ b) = true ∧ a ≠ b) (fun ⟨h, h'⟩ => by simp only [decide_eq_true_eq] at h; omega) (List.Pairwise.and h1 h2)
/-- What both answer. -/
def out (l : List Int) (es : List E) : List Int × Int :=
  if (l.length : Int) > 4096 ∨ (es.length : Int) > 4096 then ([], 2) else if (l.length : Int) > 20 ∨ (es.length : Int) > 400 then ([], 6) else if tw l = true then ([], 9) else impl_SerialOrder.go es l.length (sorted l) []
theorem impl_ev (l : List Int) (es : List E) (hl : l.length ≤ 1048576) : Ev (fun k => impl_SerialOrder.f k l es) (out l es) := by
  unfold impl_SerialOrder.f out
  by_cases h1 : (l.length : Int) > 4096 ∨ (es.length : Int) > 4096
  · rw [if_pos h1]
    exact Ev.congr (fun _ => if_pos h1) (Ev.now _)
  rw [if_neg h1]
  refine Ev.congr (fun _ => if_neg h1) ?_
  by_cases h2 : (l.length : Int) > 20 ∨ (es.length : Int) > 400
  · rw [if_pos h2]
    exact Ev.congr (fun _ => if_pos h2) (Ev.now _)
  rw [if_neg h2]
  refine Ev.congr (fun _ => if_neg h2) (Ev.bind (tw_impl l hl) ?_)
  cases tw l with
  | true => exact Ev.congr (fun _ => if_pos rfl) (Ev.now _)
  | false => exact Ev.congr (fun _ => if_neg (by simp)) (Ev.now _)
theorem order_ev (l : List Int) (es : List E) (hl : l.length ≤ 20) (he : es.length ≤ 400) (ht : tw l = false) : ∃ a ok, Ev (fun k => spec_l08Order.f k l es) (a, ok) ∧ impl_SerialOrder.go es l.length (sorted l) [] = (if ok = true then (a, 0) else ([], 15)) ∧ a.length ≤ l.length := by
  obtain ⟨a, ok, h1, h2, h3⟩ := order_both es (by omega) l.length l (sorted l) [] rfl (sorted_perm l) (sorted_up l (tw_nodup l ht)) (by simp; omega)
  refine ⟨a, ok, ?_, h2, by simpa using h3⟩
  unfold spec_l08Order.f
  simp only [Option.bind_some, List.nil_append, List.length_nil]
  exact Ev.congr (fun _ => if_pos (by omega)) h1
theorem spec_ev (l : List Int) (es : List E) (hl : l.length ≤ 1048576) (he : es.length ≤ 1048576) : Ev (fun k => spec_SerialOrder.f k l es) (out l es) := by
  have last : l.length ≤ 20 → es.length ≤ 400 → ∀ (d i : Nat), i + d = l.length → ((List.range l.length).take i).any (fun i => decide (rd l (i : Int) ∈ l.take i)) = false →
      Ev (fun k => spec_SerialOrder.l0 k l es (i : Int)) (if tw l = true then ([], 9) else impl_SerialOrder.go es l.length (sorted l) []) := by
    intro h1 h2 d
    induction d with
    | zero =>
      intro i hi hno
      obtain rfl : i = l.length := by omega
      have ht : tw l = false := by
        rw [List.take_of_length_le (by simp)] at hno
        exact hno
      rw [ht, if_neg (by simp)]
      obtain ⟨a, ok, e1, e2, -⟩ := order_ev l es h1 h2 ht
      rw [e2]
      refine Ev.step (f := fun k => (spec_l08Order.f k l es).bind fun bt165 => (if bt165.2 = true then (some (bt165.1, 0)) else (some ((([] : List Int)), 15)))) (fun k => by simp only [spec_SerialOrder.l0]; rw [if_neg (by omega)]) (Ev.bind e1 ?_)
      cases ok with
      | true => exact Ev.congr (fun _ => if_pos rfl) (Ev.now _)
      | false => exact Ev.congr (fun _ => if_neg (by simp)) (Ev.now _)
    | succ d ih =>
      intro i hi hno
      have hlt : i < l.length := by omega
      refine Ev.step (f := fun k => (spec_l03Has.f k (l.take (i : Int).toNat) (rd l (i : Int))).bind fun t161 => (if t161 = true then (some ((([] : List Int)), 9)) else (spec_SerialOrder.l0 k l es (wrap64 ((i : Int) + 1))))) (fun k => by simp only [spec_SerialOrder.l0]; rw [if_pos (by omega), if_pos (by omega), if_pos (by omega)]) ?_
      rw [Int.toNat_natCast, next_ (n := l.length) hlt (by omega)]
      refine Ev.bind (has_spec (l.take i) _ (by rw [List.length_take]; omega)) ?_
      cases hd : decide (rd l (i : Int) ∈ l.take i) with
      | true =>
        have ht : tw l = true := by
          unfold tw
          rw [List.any_eq_true]
          exact ⟨i, by simpa using hlt, hd⟩
        rw [ht, if_pos rfl]
        exact Ev.congr (fun _ => if_pos rfl) (Ev.now _)
      | false =>
        refine Ev.congr (fun _ => if_neg (by simp)) (ih (i + 1) (by omega) ?_)
        have : (List.range l.length).take (i + 1) = (List.range l.length).take i ++ [i] := by
          rw [List.take_succ_eq_append_getElem (by simpa using hlt)]
          simp
        rw [this, List.any_append, hno]
        simp [hd]
  unfold spec_SerialOrder.f out
  have j0 : ∀ (b : Bool) (r : List Int × Int), Ev (fun k => if b = true then some (([] : List Int), (2 : Int)) else (if (l.length : Int) > 20 then (spec_SerialOrder.j1 k l es true) else (spec_SerialOrder.j1 k l es (decide ((es.length : Int) > 400))))) r → Ev (fun k => spec_SerialOrder.j0 k l es b) r := fun b r h => Ev.step (fun k => spec_SerialOrder.j0.eq_2 ..) h
  have j1 : ∀ (b : Bool) (r : List Int × Int), Ev (fun k => if b = true then some (([] : List Int), (6 : Int)) else spec_SerialOrder.l0 k l es 0) r → Ev (fun k => spec_SerialOrder.j1 k l es b) r := fun b r h => Ev.step (fun k => spec_SerialOrder.j1.eq_2 ..) h
  by_cases h1 : (l.length : Int) > 4096
  · rw [if_pos (.inl h1)]
    exact Ev.congr (fun _ => if_pos h1) (j0 _ _ (Ev.congr (fun _ => if_pos rfl) (Ev.now _)))
  refine Ev.congr (fun _ => if_neg h1) (j0 _ _ ?_)
  by_cases h2 : (es.length : Int) > 4096
  · rw [if_pos (.inr h2)]
    exact Ev.congr (fun _ => if_pos (decide_eq_true h2)) (Ev.now _)
  rw [if_neg (by omega)]
  refine Ev.congr (fun _ => if_neg (by simpa using h2)) ?_
  by_cases h3 : (l.length : Int) > 20
  · rw [if_pos (.inl h3)]
    exact Ev.congr (fun _ => if_pos h3) (j1 _ _ (Ev.congr (fun _ => if_pos rfl) (Ev.now _)))
  refine Ev.congr (fun _ => if_neg h3) (j1 _ _ ?_)
  by_cases h4 : (es.length : Int) > 400
  · rw [if_pos (.inr h4)]
    exact Ev.congr (fun _ => if_pos (decide_eq_true h4)) (Ev.now _)
  rw [if_neg (by omega)]
  exact Ev.congr (fun _ => if_neg (by simpa using h4)) (last (by omega) (by omega) l.length 0 (by omega) (by simp))
theorem out_len (l : List Int) (es : List E) : (out l es).1.length ≤ 20 := by
  unfold out
  by_cases h1 : (l.length : Int) > 4096 ∨ (es.length : Int) > 4096
  · rw [if_pos h1]; simp
  rw [if_neg h1]
  by_cases h2 : (l.length : Int) > 20 ∨ (es.length : Int) > 400
  · rw [if_pos h2]; simp
  rw [if_neg h2]
  cases ht : tw l with
  | true => simp
  | false =>
    obtain ⟨a, ok, -, e2, e3⟩ := order_ev l es (by omega) (by omega) ht
    rw [if_neg (by simp), e2]
    cases ok with
    | true => simp only [if_true]; omega
    | false => simp
end Go.Proofs.Ytnoalobmkecjpaa.SerY
