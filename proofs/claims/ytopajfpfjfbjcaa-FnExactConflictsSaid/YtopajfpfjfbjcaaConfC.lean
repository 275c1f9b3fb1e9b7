/- The edges between transactions that commit, on both sides; plain lemmas. -/
import Derived.Test.YtopajfpfjfbjcaaXC4
import Derived.Test.YtopajfpfjfbjcaaCommC
import Derived.Test.YtopajfpfjfbjcaaComp
namespace Go.Proofs.Ytopajfpfjfbjcaa.ConfC
open Go Go.RowKit Go.Proofs.Ytopajfpfjfbjcaa.XC Go.Proofs.YtopajfpfjfbjcaaW.PrintWords Go.Proofs.YtopajfpfjfbjcaaW.PrintLast Go.Proofs.YtopajfpfjfbjcaaW.PrintMore Go.Proofs.Ytopajfpfjfbjcaa.Aid Go.Proofs.Ytopajfpfjfbjcaa.Loops Go.Proofs.Ytopajfpfjfbjcaa.HistC Go.Proofs.Ytopajfpfjfbjcaa.CommC Go.Proofs.Ytopajfpfjfbjcaa.Comp
set_option linter.unusedVariables false
set_option linter.unusedSimpArgs false
theorem rdI (xs : List Int) (i : Nat) (h : i < xs.length) : rd xs (i : Int) = xs[i] := by
  simp [rd, List.getD_eq_getElem?_getD, List.getElem?_eq_getElem h]
theorem has_impl (l : List Int) (x : Int) (hl : l.length ≤ 1048576) : Ev (fun k => slices_Contains_int_int.f k l x) (decide (x ∈ l)) := by
  unfold slices_Contains_int_int.f
  have key : ∀ (d i : Nat), i + d = l.length → ∃ r, Ev (fun k => slices_Index_int_int.l0 k l x (l.length : Int) (i : Int)) r ∧ decide (r ≥ 0) = decide (x ∈ l.drop i) := by
    intro d
    induction d with
    | zero =>
      intro i hi
      rw [List.drop_eq_nil_of_le (by omega)]
      exact ⟨-1, Ev.step (f := fun _ => some _) (fun k => by simp only [slices_Index_int_int.l0]; rw [if_neg (by omega)]) (Ev.now _), by simp⟩
    | succ d ih =>
      intro i hi
      have hlt : i < l.length := by omega
      rw [List.drop_eq_getElem_cons hlt]
      by_cases e : x = l[i]
      · refine ⟨(i : Int), Ev.step (f := fun _ => some _) (fun k => by simp only [slices_Index_int_int.l0]; rw [if_pos (by omega), if_pos (by omega), if_pos (by omega), rdI l i hlt, if_pos e]) (Ev.now _), ?_⟩
        rw [decide_eq_true (by omega), decide_eq_true (by rw [e]; exact List.mem_cons_self)]
      · obtain ⟨r, h1, h2⟩ := ih (i + 1) (by omega)
        refine ⟨r, Ev.step (fun k => ?_) h1, ?_⟩
        · simp only [slices_Index_int_int.l0]
          rw [if_pos (by omega), if_pos (by omega), if_pos (by omega), rdI l i hlt, if_neg e, next_ (n := l.length) hlt (by omega)]
        · rw [h2]
          exact decide_eq_decide.mpr (by rw [List.mem_cons]; exact (or_iff_right e).symm)
  obtain ⟨r, h1, h2⟩ := key l.length 0 (by omega)
  rw [List.drop_zero] at h2
  rw [← h2]
  exact Ev.bind h1 (Ev.now _)
abbrev E := S55
/-- An act ahead of another one, not both reads, on one key. -/
def meets (x y : H) : Bool := decide (x.f2.toList = y.f2.toList) && decide (x.f1 ≤ 2) && decide (y.f1 ≤ 2) && decide (2 < x.f1 + y.f1)
/-! The reference -/
def ahd (a b : Int) : List H → Bool
  | [] => false
  | x :: xs => (decide (x.f0 = a) && xs.any fun y => decide (y.f0 = b) && meets x y) || ahd a b xs
theorem ahd_iff (a b : Int) : ∀ l : List H, ahd a b l = true ↔ ∃ i j, ∃ (hj : j < l.length) (hij : i < j), (l[i]'(by omega)).f0 = a ∧ l[j].f0 = b ∧ meets (l[i]'(by omega)) l[j] = true
  | [] => by simp [ahd]
  | x :: xs => by
    rw [ahd, Bool.or_eq_true, Bool.and_eq_true, ahd_iff a b xs, List.any_eq_true, decide_eq_true_eq]
    constructor
    · rintro (⟨h1, y, hy, h2⟩ | ⟨i, j, hj, hij, h⟩)
      · obtain ⟨j, hj, rfl⟩ := List.getElem_of_mem hy
        rw [Bool.and_eq_true, decide_eq_true_eq] at h2
        exact ⟨0, j + 1, by simpa using hj, by omega, h1, h2.1, h2.2⟩
      · exact ⟨i + 1, j + 1, by simpa using hj, by omega, h⟩
    · rintro ⟨i, j, hj, hij, h1, h2, h3⟩
      obtain ⟨j, rfl⟩ : ∃ m, j = m + 1 := ⟨j - 1, by omega⟩
      have hj' : j < xs.length := by simpa using hj
      cases i with
      | zero => exact .inl ⟨h1, xs[j], List.getElem_mem hj', by rw [Bool.and_eq_true, decide_eq_true_eq]; exact ⟨h2, h3⟩⟩
      | succ i => exact .inr ⟨i, j, hj', by omega, h1, h2, h3⟩
theorem ahead_spec (l : List H) (a b : Int) (hl : l.length ≤ 1048576) (hr : ∀ x ∈ l, right x = true) : Ev (fun k => spec_l08Ahead.f k l a b) (ahd a b l) := by
  unfold spec_l08Ahead.f
  have inner : ∀ (i : Nat) (hi : i < l.length) (hx : l[i].f1 ≤ 2) (r : Bool), Ev (fun k => spec_l08Ahead.l0 k l a b ((i + 1 : Nat) : Int)) r →
      ∀ (d j : Nat), j + d = l.length → Ev (fun k => spec_l08Ahead.l1 k l a b (i : Int) (j : Int)) (((l.drop j).any fun y => decide (y.f0 = b) && meets l[i] y) || r) := by
    intro i hi hx r hnext d
    induction d with
    | zero =>
      intro j hj
      rw [List.drop_eq_nil_of_le (by omega), List.any_nil, Bool.false_or]
      refine Ev.step (fun k => ?_) hnext
      simp only [spec_l08Ahead.l1]
      rw [if_neg (by omega), next_ (n := l.length) hi (by omega)]
    | succ d ih =>
      intro j hj
      have hlt : j < l.length := by omega
      have ih' := ih (j + 1) (by omega)
      have hkj := right_kind (hr _ (List.getElem_mem hlt))
      have hki := right_kind (hr _ (List.getElem_mem hi))
      rw [List.drop_eq_getElem_cons hlt, List.any_cons]
      have hw : wrap64 (l[i].f1 + l[j].f1) = l[i].f1 + l[j].f1 := wrap_id (by omega) (by omega)
      by_cases h1 : l[j].f0 = b
      · by_cases h2 : l[j].f1 ≤ 2
        · by_cases h3 : l[j].f2.toList = l[i].f2.toList
          · by_cases h4 : 2 < l[i].f1 + l[j].f1
            · have : (decide (l[j].f0 = b) && meets l[i] l[j]) = true := by
                unfold meets
                simp [h1, h2, hx, h3, h4]
              rw [this, Bool.true_or, Bool.true_or]
              refine Ev.step (f := fun _ => some true) (fun k => ?_) (Ev.now _)
              simp only [spec_l08Ahead.l1]
              rw [if_pos (by omega), if_pos (by omega), rdH l j hlt, if_pos h1, if_pos h2, if_pos (by omega), if_pos (by omega), rdH l i hi, if_pos h3, hw, if_pos (by omega)]
            · have : (decide (l[j].f0 = b) && meets l[i] l[j]) = false := by
                unfold meets
                simp [h4]
              rw [this, Bool.false_or]
              refine Ev.step (fun k => ?_) ih'
              simp only [spec_l08Ahead.l1]
              rw [if_pos (by omega), if_pos (by omega), rdH l j hlt, if_pos h1, if_pos h2, if_pos (by omega), if_pos (by omega), rdH l i hi, if_pos h3, hw, if_neg (by omega), next_ (n := l.length) hlt (by omega)]
          · have : (decide (l[j].f0 = b) && meets l[i] l[j]) = false := by
              unfold meets
              rw [decide_eq_false (show ¬ l[i].f2.toList = l[j].f2.toList from fun h => h3 h.symm)]
              simp
            rw [this, Bool.false_or]
            refine Ev.step (fun k => ?_) ih'
            simp only [spec_l08Ahead.l1]
            rw [if_pos (by omega), if_pos (by omega), rdH l j hlt, if_pos h1, if_pos h2, if_pos (by omega), if_pos (by omega), rdH l i hi, if_neg h3, next_ (n := l.length) hlt (by omega)]
        · have : (decide (l[j].f0 = b) && meets l[i] l[j]) = false := by
            unfold meets
            simp [h2]
          rw [this, Bool.false_or]
          refine Ev.step (fun k => ?_) ih'
          simp only [spec_l08Ahead.l1]
          rw [if_pos (by omega), if_pos (by omega), rdH l j hlt, if_pos h1, if_neg h2, next_ (n := l.length) hlt (by omega)]
      · have : (decide (l[j].f0 = b) && meets l[i] l[j]) = false := by simp [h1]
        rw [this, Bool.false_or]
        refine Ev.step (fun k => ?_) ih'
        simp only [spec_l08Ahead.l1]
        rw [if_pos (by omega), if_pos (by omega), rdH l j hlt, if_neg h1, next_ (n := l.length) hlt (by omega)]
  have key : ∀ (d i : Nat), i + d = l.length → Ev (fun k => spec_l08Ahead.l0 k l a b (i : Int)) (ahd a b (l.drop i)) := by
    intro d
    induction d with
    | zero =>
      intro i hi
      rw [List.drop_eq_nil_of_le (by omega)]
      exact Ev.step (f := fun _ => some false) (fun k => by simp only [spec_l08Ahead.l0]; rw [if_neg (by omega)]) (Ev.now _)
    | succ d ih =>
      intro i hi
      have hlt : i < l.length := by omega
      rw [List.drop_eq_getElem_cons hlt, ahd]
      have ih' := ih (i + 1) (by omega)
      have skip : Ev (fun k => spec_l08Ahead.j1 k l a b (i : Int) true) (ahd a b (l.drop (i + 1))) := by
        refine Ev.step (fun k => ?_) ih'
        simp only [spec_l08Ahead.j1]
        rw [if_pos trivial, next_ (n := l.length) hlt (by omega)]
      by_cases h1 : l[i].f0 = a
      · by_cases h2 : l[i].f1 ≤ 2
        · rw [decide_eq_true h1, Bool.true_and]
          refine Ev.step (f := fun k => spec_l08Ahead.j1 k l a b (i : Int) false) (fun k => ?_) ?_
          · simp only [spec_l08Ahead.l0]
            rw [if_pos (by omega), if_pos (by omega), rdH l i hlt, if_pos h1, decide_eq_false (by omega)]
          · refine Ev.step (f := fun k => spec_l08Ahead.l1 k l a b (i : Int) ((i + 1 : Nat) : Int)) (fun k => ?_) (inner i hlt h2 _ ih' (l.length - (i + 1)) (i + 1) (by omega))
            simp only [spec_l08Ahead.j1]
            rw [if_neg (by simp), next_ (n := l.length) hlt (by omega)]
        · have : ((l.drop (i + 1)).any fun y => decide (y.f0 = b) && meets l[i] y) = false := by
            rw [List.any_eq_false]
            intro y _
            unfold meets
            simp [h2]
          rw [this, Bool.and_false, Bool.false_or]
          refine Ev.step (f := fun k => spec_l08Ahead.j1 k l a b (i : Int) true) (fun k => ?_) skip
          simp only [spec_l08Ahead.l0]
          rw [if_pos (by omega), if_pos (by omega), rdH l i hlt, if_pos h1, decide_eq_true (by omega)]
      · rw [decide_eq_false h1, Bool.false_and, Bool.false_or]
        refine Ev.step (f := fun k => spec_l08Ahead.j1 k l a b (i : Int) true) (fun k => ?_) skip
        simp only [spec_l08Ahead.l0]
        rw [if_pos (by omega), if_pos (by omega), rdH l i hlt, if_neg h1]
  exact key l.length 0 (by omega)
theorem nodup_inj {L : List Int} (h : L.Nodup) {n m : Nat} (hn : n < L.length) (hm : m < L.length) (e : L[n] = L[m]) : n = m := by
  unfold List.Nodup at h
  rw [List.pairwise_iff_getElem] at h
  rcases Nat.lt_trichotomy n m with h1 | h1 | h1
  · exact absurd e (h n m hn hm h1)
  · exact h1
  · exact absurd e.symm (h m n hm hn h1)
def row (l : List H) (C : List Int) (a : Int) : List E := (C.filter fun b => decide (a ≠ b) && ahd a b l).map fun b => ⟨a, b⟩
def all (l : List H) (C : List Int) : List E := C.flatMap (row l C)
theorem row_len (l : List H) (C : List Int) (a : Int) : (row l C a).length ≤ C.length := by
  unfold row
  rw [List.length_map]
  exact List.length_filter_le _ _
theorem conf_loop (l : List H) (C : List Int) (hn : C.Nodup) (hC : C.length ≤ 6) (hl : l.length ≤ 1048576) (hr : ∀ x ∈ l, right x = true) : Ev (fun k => spec_l08Conflicts.l0 k l C [] 0) (all l C) := by
  have inner : ∀ (i : Nat) (hi : i < C.length) (r : List E), ∀ (d j : Nat) (acc : List E), j + d = C.length → acc.length ≤ 6 * i + j →
      Ev (fun k => spec_l08Conflicts.l0 k l C (acc ++ ((C.drop j).filter fun b => decide (C[i] ≠ b) && ahd C[i] b l).map fun b => (⟨C[i], b⟩ : E)) ((i + 1 : Nat) : Int)) r →
      Ev (fun k => spec_l08Conflicts.l1 k l C acc (i : Int) (j : Int)) r := by
    intro i hi r d
    induction d with
    | zero =>
      intro j acc hj ha hnext
      rw [List.drop_eq_nil_of_le (by omega), List.filter_nil, List.map_nil, List.append_nil] at hnext
      refine Ev.step (fun k => ?_) hnext
      simp only [spec_l08Conflicts.l1]
      rw [if_neg (by omega), next_ (n := C.length) hi (by omega)]
    | succ d ih =>
      intro j acc hj ha hnext
      have hlt : j < C.length := by omega
      rw [List.drop_eq_getElem_cons hlt, List.filter_cons] at hnext
      by_cases hij : i = j
      · subst hij
        rw [if_neg (by simp)] at hnext
        refine Ev.step (fun k => ?_) (ih (i + 1) acc (by omega) (by omega) hnext)
        simp only [spec_l08Conflicts.l1]
        rw [if_pos (by omega), if_pos trivial, next_ (n := C.length) hlt (by omega)]
      · have hne : C[i] ≠ C[j] := fun e => hij (nodup_inj hn hi hlt e)
        have hA := ahead_spec l C[i] C[j] hl hr
        refine Ev.step (f := fun k => (spec_l08Ahead.f k l C[i] C[j]).bind fun t => if t = true then (if acc.length < 8796093022208 then spec_l08Conflicts.l1 k l C (acc ++ [(⟨C[i], C[j]⟩ : E)]) (i : Int) ((j + 1 : Nat) : Int) else none) else spec_l08Conflicts.l1 k l C acc (i : Int) ((j + 1 : Nat) : Int)) (fun k => ?_) (Ev.bind hA ?_)
        · simp only [spec_l08Conflicts.l1]
          rw [if_pos (by omega), if_neg (by omega), if_pos (by omega), if_pos (by omega), if_pos (by omega), rdI C i hi, rdI C j hlt, next_ (n := C.length) hlt (by omega)]
        · cases h : ahd C[i] C[j] l with
          | true =>
            rw [h, decide_eq_true hne, Bool.true_and, if_pos rfl, List.map_cons] at hnext
            refine Ev.congr (fun _ => (if_pos rfl).trans (if_pos (by omega))) (ih (j + 1) _ (by omega) (by rw [List.length_append]; simp; omega) ?_)
            rw [List.append_assoc]
            exact hnext
          | false =>
            rw [h, Bool.and_false, if_neg (by simp)] at hnext
            exact Ev.congr (fun _ => if_neg (by simp)) (ih (j + 1) acc (by omega) (by omega) hnext)
  have key : ∀ (d i : Nat) (acc : List E), i + d = C.length → acc.length ≤ 6 * i → Ev (fun k => spec_l08Conflicts.l0 k l C acc (i : Int)) (acc ++ (C.drop i).flatMap (row l C)) := by
    intro d
    induction d with
    | zero =>
      intro i acc hi ha
      rw [List.drop_eq_nil_of_le (by omega), List.flatMap_nil, List.append_nil]
      exact Ev.step (f := fun _ => some acc) (fun k => by simp only [spec_l08Conflicts.l0]; rw [if_neg (by omega)]) (Ev.now _)
    | succ d ih =>
      intro i acc hi ha
      have hlt : i < C.length := by omega
      rw [List.drop_eq_getElem_cons hlt, List.flatMap_cons]
      have hrow : (row l C C[i]).length ≤ C.length := row_len l C C[i]
      have h1 := ih (i + 1) (acc ++ row l C C[i]) (by omega) (by rw [List.length_append]; omega)
      rw [List.append_assoc] at h1
      refine Ev.step (f := fun k => spec_l08Conflicts.l1 k l C acc (i : Int) 0) (fun k => ?_) (inner i hlt _ C.length 0 acc (by omega) (by omega) ?_)
      · simp only [spec_l08Conflicts.l0]
        rw [if_pos (by omega)]
      · rw [List.drop_zero]
        exact h1
  simpa [all] using key C.length 0 [] (by omega) (by simp)
theorem comm_facts (l : List H) : (comm l).Pairwise (· < ·) ∧ (comm l).Nodup ∧ (comm l).length ≤ 6 := by
  have h6 : six.Pairwise (· < ·) := by unfold six; simp
  have hp : (comm l).Pairwise (· < ·) := List.Pairwise.filter _ h6
  refine ⟨hp, hp.imp (fun h => by omega), ?_⟩
  have : (six.filter (CommC.one l)).length ≤ six.length := List.length_filter_le _ _
  simpa [comm, six] using this
theorem ok_right {l : List H} (h : ok l = true) : ∀ y ∈ l, right y = true := fun y hy => by
  obtain ⟨i, hi, rfl⟩ := List.getElem_of_mem hy
  unfold ok at h
  simp only [Bool.and_eq_true, List.all_eq_true] at h
  have := h.2 i (by simpa using hi)
  unfold atSpec at this
  have hg : l.getD i z47 = l[i] := by simp [List.getD_eq_getElem?_getD, List.getElem?_eq_getElem hi]
  rw [hg] at this
  simp only [Bool.and_eq_true] at this
  exact this.1.1
theorem conf_spec (l : List H) (h : ok l = true) : Ev (fun k => spec_l08Conflicts.f k l) (all l (comm l)) := by
  have hl := ok_len h
  obtain ⟨_, h2, h3⟩ := comm_facts l
  unfold spec_l08Conflicts.f
  exact Ev.bind (comm_spec l (by omega)) (conf_loop l (comm l) h2 h3 (by omega) (ok_right h))
end Go.Proofs.Ytopajfpfjfbjcaa.ConfC
