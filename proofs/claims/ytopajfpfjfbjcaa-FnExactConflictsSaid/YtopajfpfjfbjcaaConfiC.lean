/- The program's edges: which they are; that they are the reference's, sorted and struck; plain lemmas. -/
import Derived.Test.YtopajfpfjfbjcaaXC8
import Derived.Test.YtopajfpfjfbjcaaConfC
namespace Go.Proofs.Ytopajfpfjfbjcaa.ConfiC
open Go Go.RowKit Go.Proofs.Ytopajfpfjfbjcaa.XC Go.Proofs.YtopajfpfjfbjcaaW.PrintWords Go.Proofs.YtopajfpfjfbjcaaW.PrintLast Go.Proofs.YtopajfpfjfbjcaaW.PrintMore Go.Proofs.Ytopajfpfjfbjcaa.Aid Go.Proofs.Ytopajfpfjfbjcaa.Loops Go.Proofs.Ytopajfpfjfbjcaa.HistC Go.Proofs.Ytopajfpfjfbjcaa.CommC Go.Proofs.Ytopajfpfjfbjcaa.Comp Go.Proofs.Ytopajfpfjfbjcaa.ConfC
set_option linter.unusedVariables false
set_option linter.unusedSimpArgs false
def cond (C : List Int) (y x : H) : Bool := decide (x.f0 ≠ y.f0) && !en x.f1 && !en y.f1 && decide (x.f2.toList = y.f2.toList) && (decide (x.f1 = 2) || decide (y.f1 = 2)) && decide (x.f0 ∈ C) && decide (y.f0 ∈ C)
def ins (C : List Int) (y : H) (pre : List H) : List E := (pre.filter (cond C y)).map fun x => ⟨x.f0, y.f0⟩
theorem end_impl (x : Int) : impl_isEnd.f x = some (en x) := by rw [impl_HistoryOK.en_some, en_impl]
theorem loop_one (l : List H) (C : List Int) (hC : C.length ≤ 6) (hl : l.length ≤ 60) (i : Nat) (hi : i < l.length) (y : H) (r : List E × Int) (pre : List H) (hpre : pre.length = i) :
    ∀ (d j : Nat) (acc : List E), j + d = pre.length → acc.length ≤ 60 * i + j →
      Ev (fun k => impl_Conflicts.l0 k l C (acc ++ ins C y (pre.drop j)) l (l.length : Int) ((i + 1 : Nat) : Int)) r →
      Ev (fun k => impl_Conflicts.l1 k l C acc l (l.length : Int) (i : Int) pre (pre.length : Int) (j : Int) y.f0 y.f1 y.f2 y.f3) r := by
  intro d
  induction d with
  | zero =>
    intro j acc hj ha hnext
    unfold ins at hnext
    rw [List.drop_eq_nil_of_le (by omega), List.filter_nil, List.map_nil, List.append_nil] at hnext
    refine Ev.step (fun k => ?_) hnext
    simp only [impl_Conflicts.l1]
    rw [if_neg (by omega), next_ (n := l.length) hi (by omega)]
  | succ d ih =>
    intro j acc hj ha hnext
    have hlt : j < pre.length := by omega
    unfold ins at hnext
    rw [List.drop_eq_getElem_cons hlt, List.filter_cons] at hnext
    have skip : cond C y pre[j] = false → Ev (fun k => impl_Conflicts.l1 k l C acc l (l.length : Int) (i : Int) pre (pre.length : Int) ((j + 1 : Nat) : Int) y.f0 y.f1 y.f2 y.f3) r := by
      intro hc
      rw [hc, if_neg (by simp)] at hnext
      exact ih (j + 1) acc (by omega) (by omega) hnext
    have fin : ∀ hk : pre[j].f0 ≠ y.f0, en pre[j].f1 = false → en y.f1 = false → pre[j].f2.toList = y.f2.toList → (pre[j].f1 = 2 ∨ y.f1 = 2) →
        Ev (fun k => (slices_Contains_int_int.f k C pre[j].f0).bind fun t => if t = true then ((slices_Contains_int_int.f k C y.f0).bind fun t => if t = true then (if acc.length < 8796093022208 then impl_Conflicts.l1 k l C (acc ++ [(⟨pre[j].f0, y.f0⟩ : E)]) l (l.length : Int) (i : Int) pre (pre.length : Int) ((j + 1 : Nat) : Int) y.f0 y.f1 y.f2 y.f3 else none) else impl_Conflicts.l1 k l C acc l (l.length : Int) (i : Int) pre (pre.length : Int) ((j + 1 : Nat) : Int) y.f0 y.f1 y.f2 y.f3) else impl_Conflicts.l1 k l C acc l (l.length : Int) (i : Int) pre (pre.length : Int) ((j + 1 : Nat) : Int) y.f0 y.f1 y.f2 y.f3) r := by
      intro h1 h2 h3 h4 h5
      refine Ev.bind (has_impl C _ (by omega)) ?_
      by_cases h6 : pre[j].f0 ∈ C
      · rw [decide_eq_true h6]
        refine Ev.congr (fun _ => if_pos rfl) (Ev.bind (has_impl C _ (by omega)) ?_)
        by_cases h7 : y.f0 ∈ C
        · rw [decide_eq_true h7]
          have hc : cond C y pre[j] = true := by
            unfold cond
            rw [decide_eq_true h1, h2, h3, decide_eq_true h4, decide_eq_true h6, decide_eq_true h7]
            rcases h5 with e | e <;> simp [e]
          rw [hc, if_pos rfl, List.map_cons] at hnext
          refine Ev.congr (fun _ => (if_pos rfl).trans (if_pos (by omega))) (ih (j + 1) _ (by omega) (by rw [List.length_append]; simp; omega) ?_)
          rw [List.append_assoc]
          exact hnext
        · rw [decide_eq_false h7]
          exact Ev.congr (fun _ => if_neg (by simp)) (skip (by unfold cond; rw [decide_eq_false h7, Bool.and_false]))
      · rw [decide_eq_false h6]
        exact Ev.congr (fun _ => if_neg (by simp)) (skip (by unfold cond; rw [decide_eq_false h6, Bool.and_false, Bool.false_and]))
    by_cases h1 : pre[j].f0 = y.f0
    · refine Ev.step (fun k => ?_) (skip (by unfold cond; rw [decide_eq_false (by simpa using h1)]; rfl))
      simp only [impl_Conflicts.l1]
      rw [if_pos (by omega), if_pos (by omega), if_pos (by omega), rdH pre j hlt, if_pos h1, next_ (n := pre.length) hlt (by omega)]
    cases h2 : en pre[j].f1 with
    | true =>
      refine Ev.step (fun k => ?_) (skip (by unfold cond; rw [h2]; simp))
      simp only [impl_Conflicts.l1]
      rw [if_pos (by omega), if_pos (by omega), if_pos (by omega), rdH pre j hlt, if_neg h1, end_impl, h2]
      simp only [Option.bind_some]
      rw [if_pos trivial, next_ (n := pre.length) hlt (by omega)]
    | false =>
    cases h3 : en y.f1 with
    | true =>
      refine Ev.step (fun k => ?_) (skip (by unfold cond; rw [h3]; simp))
      simp only [impl_Conflicts.l1]
      rw [if_pos (by omega), if_pos (by omega), if_pos (by omega), rdH pre j hlt, if_neg h1, end_impl, h2, end_impl, h3]
      simp only [Option.bind_some, Bool.false_eq_true, if_false]
      rw [if_pos trivial, next_ (n := pre.length) hlt (by omega)]
    | false =>
    by_cases h4 : pre[j].f2.toList = y.f2.toList
    · by_cases h5 : pre[j].f1 = 2
      · refine Ev.step (fun k => ?_) (fin h1 h2 h3 h4 (.inl h5))
        simp only [impl_Conflicts.l1]
        rw [if_pos (by omega), if_pos (by omega), if_pos (by omega), rdH pre j hlt, if_neg h1, end_impl, h2, end_impl, h3]
        simp only [Option.bind_some, Bool.false_eq_true, if_false]
        rw [if_pos h4, if_pos h5, next_ (n := pre.length) hlt (by omega)]
      · by_cases h6 : y.f1 = 2
        · refine Ev.step (fun k => ?_) (fin h1 h2 h3 h4 (.inr h6))
          simp only [impl_Conflicts.l1]
          rw [if_pos (by omega), if_pos (by omega), if_pos (by omega), rdH pre j hlt, if_neg h1, end_impl, h2, end_impl, h3]
          simp only [Option.bind_some, Bool.false_eq_true, if_false]
          rw [if_pos h4, if_neg h5, if_pos h6, next_ (n := pre.length) hlt (by omega)]
        · refine Ev.step (fun k => ?_) (skip (by unfold cond; rw [decide_eq_false h5, decide_eq_false h6]; simp))
          simp only [impl_Conflicts.l1]
          rw [if_pos (by omega), if_pos (by omega), if_pos (by omega), rdH pre j hlt, if_neg h1, end_impl, h2, end_impl, h3]
          simp only [Option.bind_some, Bool.false_eq_true, if_false]
          rw [if_pos h4, if_neg h5, if_neg h6, next_ (n := pre.length) hlt (by omega)]
    · refine Ev.step (fun k => ?_) (skip (by unfold cond; rw [decide_eq_false h4]; simp))
      simp only [impl_Conflicts.l1]
      rw [if_pos (by omega), if_pos (by omega), if_pos (by omega), rdH pre j hlt, if_neg h1, end_impl, h2, end_impl, h3]
      simp only [Option.bind_some, Bool.false_eq_true, if_false]
      rw [if_neg h4, next_ (n := pre.length) hlt (by omega)]
def at_ (l : List H) (C : List Int) (i : Nat) : List E := ins C (l.getD i z47) (l.take i)
def raw (l : List H) (C : List Int) : List E := (List.range l.length).flatMap (at_ l C)
def res (L : List E) : List E := (Lib.compact (((L.map impl_Edge_30.pr).mergeSort fun x y => !decide (lt y x)).map impl_Edge_30.un |>.map impl_Edge_34.pr)).map impl_Edge_34.un
theorem range_drop (n i : Nat) (h : i < n) : (List.range n).drop i = i :: (List.range n).drop (i + 1) := by
  rw [List.drop_eq_getElem_cons (by simpa using h)]
  simp
theorem ins_len (C : List Int) (y : H) (pre : List H) : (ins C y pre).length ≤ pre.length := by
  unfold ins
  rw [List.length_map]
  exact List.length_filter_le _ _
theorem loop_all (l : List H) (C : List Int) (hC : C.length ≤ 6) (hl : l.length ≤ 60) : Ev (fun k => impl_Conflicts.l0 k l C [] l (l.length : Int) 0) (res (raw l C), 0) := by
  have key : ∀ (d i : Nat) (acc : List E), i + d = l.length → acc.length ≤ 60 * i → Ev (fun k => impl_Conflicts.l0 k l C acc l (l.length : Int) (i : Int)) (res (acc ++ ((List.range l.length).drop i).flatMap (at_ l C)), 0) := by
    intro d
    induction d with
    | zero =>
      intro i acc hi ha
      rw [List.drop_eq_nil_of_le (by simp; omega), List.flatMap_nil, List.append_nil]
      refine Ev.step (f := fun _ => some (res acc, 0)) (fun k => ?_) (Ev.now _)
      simp only [impl_Conflicts.l0]
      rw [if_neg (by omega)]
      unfold impl_Edge_30.f impl_Edge_34.f
      rw [if_pos (by omega), Option.bind_some, if_pos (by rw [List.length_map, List.length_mergeSort, List.length_map]; omega), Option.bind_some]
      rfl
    | succ d ih =>
      intro i acc hi ha
      have hlt : i < l.length := by omega
      have hg : l.getD i z47 = l[i] := by simp [List.getD_eq_getElem?_getD, List.getElem?_eq_getElem hlt]
      have hpre : (l.take i).length = i := by rw [List.length_take]; omega
      rw [range_drop l.length i hlt, List.flatMap_cons]
      have h1 := ih (i + 1) (acc ++ at_ l C i) (by omega) (by
        have := ins_len C (l.getD i z47) (l.take i)
        rw [List.length_append]
        unfold at_
        omega)
      rw [List.append_assoc] at h1
      have e : ins C l[i] (l.take i) = at_ l C i := by unfold at_; rw [hg]
      have h2 := loop_one l C hC hl i hlt l[i] _ (l.take i) hpre (l.take i).length 0 acc (by omega) (by omega) (by
        rw [List.drop_zero, e]
        exact h1)
      refine Ev.step (fun k => ?_) h2
      simp only [impl_Conflicts.l0, Option.bind_some]
      rw [if_pos (by omega), if_pos (by omega), if_pos (by omega), if_pos (by omega), rdH l i hlt, Int.toNat_natCast]
      rfl
  simpa [raw] using key l.length 0 [] (by omega) (by simp)
/-! The two lists are one -/
theorem res_is (L ys : List E) (hy : (ys.map impl_Edge_30.pr).Pairwise lt) (hm : ∀ p, p ∈ L.map impl_Edge_30.pr ↔ p ∈ ys.map impl_Edge_30.pr) : res L = ys := by
  unfold res
  have e : ∀ M : List (Int × Int), (M.map impl_Edge_30.un).map impl_Edge_34.pr = M := fun M => impl_Edge_34.prun M
  rw [e, Ytopajfpfjfbjcaa.Struck.struck _ _ hy hm]
  exact impl_Edge_34.unpr ys
theorem all_rising (l : List H) : ((all l (comm l)).map impl_Edge_30.pr).Pairwise lt := by
  obtain ⟨hp, _, _⟩ := comm_facts l
  have gen : ∀ C D : List Int, C.Pairwise (· < ·) → D.Pairwise (· < ·) → ((C.flatMap (row l D)).map impl_Edge_30.pr).Pairwise lt := by
    intro C D hC hD
    induction C with
    | nil => simp
    | cons a C ih =>
      obtain ⟨h0, h1⟩ := List.pairwise_cons.1 hC
      rw [List.flatMap_cons, List.map_append, List.pairwise_append]
      refine ⟨?_, ih h1, ?_⟩
      · unfold row
        rw [List.map_map, List.pairwise_map]
        refine (List.Pairwise.filter _ hD).imp ?_
        intro b c hbc
        exact .inr ⟨rfl, hbc⟩
      · intro p hp q hq
        obtain ⟨x, hx, rfl⟩ := List.mem_map.1 hp
        obtain ⟨z, hz, rfl⟩ := List.mem_map.1 hq
        obtain ⟨c, hc, hz⟩ := List.mem_flatMap.1 hz
        unfold row at hx hz
        obtain ⟨b, _, rfl⟩ := List.mem_map.1 hx
        obtain ⟨f, _, rfl⟩ := List.mem_map.1 hz
        exact .inl (h0 c hc)
  exact gen _ _ hp hp
theorem meets_cond {x y : H} (hx : right x = true) (hy : right y = true) (C : List Int) : cond C y x = true ↔ x.f0 ≠ y.f0 ∧ meets x y = true ∧ x.f0 ∈ C ∧ y.f0 ∈ C := by
  have kx := right_kind hx
  have ky := right_kind hy
  have ex := en_right hx
  have ey := en_right hy
  unfold cond meets
  rw [ex, ey]
  simp only [Bool.and_eq_true, Bool.or_eq_true, decide_eq_true_eq, Bool.not_eq_true', decide_eq_false_iff_not]
  constructor
  · rintro ⟨⟨⟨⟨⟨⟨h1, h2⟩, h3⟩, h4⟩, h5⟩, h6⟩, h7⟩
    exact ⟨h1, ⟨⟨⟨h4, by omega⟩, by omega⟩, by omega⟩, h6, h7⟩
  · rintro ⟨h1, ⟨⟨⟨h4, h2⟩, h3⟩, h5⟩, h6, h7⟩
    exact ⟨⟨⟨⟨⟨⟨h1, by omega⟩, by omega⟩, h4⟩, by omega⟩, h6⟩, h7⟩
theorem same_mem {l : List H} (h : ok l = true) (a b : Int) : (⟨a, b⟩ : E) ∈ raw l (comm l) ↔ (⟨a, b⟩ : E) ∈ all l (comm l) := by
  have hr := ok_right h
  unfold raw all
  rw [List.mem_flatMap, List.mem_flatMap]
  constructor
  · rintro ⟨j, hj, hm⟩
    have hj := List.mem_range.1 hj
    have hg : l.getD j z47 = l[j] := by simp [List.getD_eq_getElem?_getD, List.getElem?_eq_getElem hj]
    unfold at_ ins at hm
    rw [hg] at hm
    obtain ⟨x, hx, he⟩ := List.mem_map.1 hm
    obtain ⟨hx, hc⟩ := List.mem_filter.1 hx
    obtain ⟨i, hi, rfl⟩ := List.getElem_of_mem hx
    have hi' : i < j := by rw [List.length_take] at hi; omega
    rw [List.getElem_take] at hc he
    obtain ⟨c1, c2, c3, c4⟩ := (meets_cond (hr _ (List.getElem_mem _)) (hr _ (List.getElem_mem _)) (comm l)).1 hc
    injection he with e1 e2
    subst e1
    subst e2
    refine ⟨_, c3, ?_⟩
    unfold row
    refine List.mem_map.2 ⟨_, List.mem_filter.2 ⟨c4, ?_⟩, rfl⟩
    rw [Bool.and_eq_true, decide_eq_true_eq, ahd_iff]
    exact ⟨c1, i, j, hj, hi', rfl, rfl, c2⟩
  · rintro ⟨c, hc, hm⟩
    unfold row at hm
    obtain ⟨d, hd, he⟩ := List.mem_map.1 hm
    obtain ⟨hd, hq⟩ := List.mem_filter.1 hd
    rw [Bool.and_eq_true, decide_eq_true_eq, ahd_iff] at hq
    obtain ⟨hne, i, j, hj, hij, h1, h2, h3⟩ := hq
    injection he with e1 e2
    subst e1
    subst e2
    have hg : l.getD j z47 = l[j] := by simp [List.getD_eq_getElem?_getD, List.getElem?_eq_getElem hj]
    refine ⟨j, List.mem_range.2 hj, ?_⟩
    unfold at_ ins
    rw [hg]
    refine List.mem_map.2 ⟨l[i], List.mem_filter.2 ⟨?_, (meets_cond (hr _ (List.getElem_mem _)) (hr _ (List.getElem_mem _)) (comm l)).2 ⟨?_, h3, ?_, ?_⟩⟩, ?_⟩
    · have ht : i < (l.take j).length := by rw [List.length_take]; omega
      have : (l.take j)[i] = l[i] := List.getElem_take ..
      rw [← this]
      exact List.getElem_mem ht
    · rw [h1, h2]; exact hne
    · rw [h1]; exact hc
    · rw [h2]; exact hd
    · rw [h1, h2]
theorem conf_same {l : List H} (h : ok l = true) : res (raw l (comm l)) = all l (comm l) := by
  refine res_is _ _ (all_rising l) fun p => ?_
  constructor
  · intro hp
    obtain ⟨x, hx, rfl⟩ := List.mem_map.1 hp
    exact List.mem_map.2 ⟨x, (same_mem h x.f0 x.f1).1 hx, rfl⟩
  · intro hp
    obtain ⟨x, hx, rfl⟩ := List.mem_map.1 hp
    exact List.mem_map.2 ⟨x, (same_mem h x.f0 x.f1).2 hx, rfl⟩
def out (l : List H) : List E × Int := if (l.length : Int) > 4096 then ([], 2) else if ok l = true then (all l (comm l), 0) else ([], 1)
theorem spec_ev (l : List H) (hl : l.length ≤ 1048576) : Ev (fun k => spec_Conflicts.f k l) (out l) := by
  unfold spec_Conflicts.f out
  by_cases h1 : (l.length : Int) > 4096
  · rw [if_pos h1]
    exact Ev.congr (fun _ => if_pos h1) (Ev.now _)
  rw [if_neg h1]
  refine Ev.congr (fun _ => if_neg h1) (Ev.bind (ok_spec l hl) ?_)
  cases hok : ok l with
  | false => exact Ev.congr (fun _ => if_neg (by simp)) (Ev.now _)
  | true => exact Ev.congr (fun _ => if_pos rfl) (Ev.bind (conf_spec l hok) (Ev.now _))
theorem impl_ev (l : List H) (hl : l.length ≤ 1048576) : Ev (fun k => impl_Conflicts.f k l) (out l) := by
  unfold impl_Conflicts.f out impl_historyCode.f
  by_cases h1 : (l.length : Int) > 4096
  · simp only [if_pos h1, Option.bind_some]
    exact Ev.congr (fun _ => if_neg (by omega)) (Ev.now _)
  simp only [if_neg h1, ok_impl, Option.bind_some]
  cases hok : ok l with
  | false =>
    simp only [Bool.false_eq_true, if_false, Option.bind_some]
    exact Ev.congr (fun _ => if_neg (by omega)) (Ev.now _)
  | true =>
    simp only [if_true, Option.bind_some]
    have h := comm_impl l (by omega)
    rw [comm_is hok] at h
    have h2 := loop_all l (comm l) (comm_facts l).2.2 (ok_len hok)
    rw [conf_same hok] at h2
    exact Ev.bind h h2
theorem out_len (l : List H) : (out l).1.length ≤ 36 := by
  unfold out
  split
  · simp
  · split
    · have h6 := (comm_facts l).2.2
      have : ∀ C D : List Int, D.length ≤ 6 → (C.flatMap (row l D)).length ≤ C.length * 6 := by
        intro C D hD
        induction C with
        | nil => simp
        | cons a C ih =>
          have := row_len l D a
          rw [List.flatMap_cons, List.length_append, List.length_cons]
          omega
      have := this (comm l) (comm l) h6
      unfold all
      show ((comm l).flatMap (row l (comm l))).length ≤ 36
      omega
    · simp
end Go.Proofs.Ytopajfpfjfbjcaa.ConfiC
