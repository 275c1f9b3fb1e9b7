/- The transactions that commit, on both sides; plain lemmas. -/
import Derived.Test.YtopajfpfjfbjcaaXP4
import Derived.Test.YtopajfpfjfbjcaaXP9
import Derived.Test.YtopajfpfjfbjcaaHistP
namespace Go.Proofs.Ytopajfpfjfbjcaa.CommP
open Go Go.RowKit Go.Proofs.Ytopajfpfjfbjcaa.XP Go.Proofs.YtopajfpfjfbjcaaW.PrintWords Go.Proofs.YtopajfpfjfbjcaaW.PrintLast Go.Proofs.YtopajfpfjfbjcaaW.PrintMore Go.Proofs.Ytopajfpfjfbjcaa.Aid Go.Proofs.Ytopajfpfjfbjcaa.Loops Go.Proofs.Ytopajfpfjfbjcaa.HistP
set_option linter.unusedVariables false
set_option linter.unusedSimpArgs false

/-! The two lists are one -/
/-- In a right history an end stands where its transaction is done. -/
theorem done_at {l : List H} (h : ok l = true) (i : Nat) (hi : i < l.length) (he : 3 ≤ l[i].f1) : done l l[i].f0 = (i : Int) := by
  unfold ok at h
  simp only [Bool.and_eq_true, List.all_eq_true] at h
  have := h.2 i (by simpa using hi)
  unfold atSpec at this
  have hg : l.getD i z47 = l[i] := by simp [List.getD_eq_getElem?_getD, List.getElem?_eq_getElem hi]
  rw [hg] at this
  simp only [Bool.and_eq_true, decide_eq_true_eq] at this
  obtain ⟨⟨_, h1⟩, h2⟩ := this
  unfold done at h1 h2 ⊢
  cases hf : l.findIdx? (isDone l[i].f0) with
  | none => rw [hf] at h1; simp only at h1; omega
  | some q =>
    rw [hf] at h2
    simp only at h2 ⊢
    obtain ⟨hq, hqd, hb⟩ := List.findIdx?_eq_some_iff_getElem.1 hf
    by_cases hlt : i < q
    · exact absurd (decide_eq_true ⟨rfl, he⟩ : isDone l[i].f0 l[i] = true) (hb i hlt)
    · omega
def isC (x : H) : Bool := decide (x.f1 = 3)
def one (l : List H) (t : Int) : Bool := decide (0 ≤ done l t) && decide ((l.getD (done l t).toNat z47).f1 = 3)
def six : List Int := [0, 1, 2, 3, 4, 5]
def comm (l : List H) : List Int := six.filter (one l)
theorem mem_comm {l : List H} (h : ok l = true) (t : Int) : t ∈ comm l ↔ t ∈ (l.filter isC).map (·.f0) := by
  have hr : ∀ y ∈ l, right y = true := fun y hy => by
    obtain ⟨i, hi, rfl⟩ := List.getElem_of_mem hy
    unfold ok at h
    simp only [Bool.and_eq_true, List.all_eq_true] at h
    have := h.2 i (by simpa using hi)
    unfold atSpec at this
    have hg : l.getD i z47 = l[i] := by simp [List.getD_eq_getElem?_getD, List.getElem?_eq_getElem hi]
    rw [hg] at this
    simp only [Bool.and_eq_true] at this
    exact this.1.1
  unfold comm
  rw [List.mem_filter, List.mem_map]
  constructor
  · rintro ⟨_, h1⟩
    unfold one at h1
    simp only [Bool.and_eq_true, decide_eq_true_eq] at h1
    obtain ⟨h1, h2⟩ := h1
    unfold done at h1 h2
    cases hf : l.findIdx? (isDone t) with
    | none => rw [hf] at h1; simp only at h1; omega
    | some q =>
      rw [hf] at h2
      obtain ⟨hq, hqd, _⟩ := List.findIdx?_eq_some_iff_getElem.1 hf
      simp only [Int.toNat_natCast] at h2
      have hg : l.getD q z47 = l[q] := by simp [List.getD_eq_getElem?_getD, List.getElem?_eq_getElem hq]
      rw [hg] at h2
      exact ⟨l[q], List.mem_filter.2 ⟨List.getElem_mem _, decide_eq_true h2⟩, (of_decide_eq_true hqd).1⟩
  · rintro ⟨x, hx, rfl⟩
    obtain ⟨hx, hc⟩ := List.mem_filter.1 hx
    have hc := of_decide_eq_true hc
    obtain ⟨i, hi, rfl⟩ := List.getElem_of_mem hx
    have hd := done_at h i hi (by omega)
    have hk := right_kind (hr _ hx)
    refine ⟨?_, ?_⟩
    · have : l[i].f0 = 0 ∨ l[i].f0 = 1 ∨ l[i].f0 = 2 ∨ l[i].f0 = 3 ∨ l[i].f0 = 4 ∨ l[i].f0 = 5 := by omega
      unfold six
      simp
      omega
    · unfold one
      rw [hd, Int.toNat_natCast]
      have hg : l.getD i z47 = l[i] := by simp [List.getD_eq_getElem?_getD, List.getElem?_eq_getElem hi]
      rw [hg, hc]
      simp
theorem nodup_ends {l : List H} (h : ok l = true) : ((l.filter isC).map (·.f0)).Nodup := by
  have key : ∀ (d i : Nat), i + d = l.length → (((l.drop i).filter isC).map (·.f0)).Nodup := by
    intro d
    induction d with
    | zero =>
      intro i hi
      rw [List.drop_eq_nil_of_le (by omega)]
      simp
    | succ d ih =>
      intro i hi
      have hlt : i < l.length := by omega
      rw [List.drop_eq_getElem_cons hlt, List.filter_cons]
      cases hc : isC l[i] with
      | false => rw [if_neg (by simp)]; exact ih (i + 1) (by omega)
      | true =>
        rw [if_pos rfl, List.map_cons, List.nodup_cons]
        refine ⟨?_, ih (i + 1) (by omega)⟩
        intro hm
        obtain ⟨y, hy, hye⟩ := List.mem_map.1 hm
        obtain ⟨hy, hyc⟩ := List.mem_filter.1 hy
        obtain ⟨j, hj, rfl⟩ := List.getElem_of_mem hy
        have hj' : i + 1 + j < l.length := by rw [List.length_drop] at hj; omega
        rw [List.getElem_drop] at hye hyc
        have h1 := done_at h i hlt (by have := of_decide_eq_true hc; omega)
        have h2 := done_at h (i + 1 + j) hj' (by have := of_decide_eq_true hyc; omega)
        rw [hye, h1] at h2
        omega
  simpa using key l.length 0 (by omega)
theorem comm_is {l : List H} (h : ok l = true) : (((l.filter isC).map (·.f0)).mergeSort fun x y => decide (x ≤ y)) = comm l := by
  have hs : List.Pairwise (fun (x y : Int) => (decide (x ≤ y)) = true) (comm l) := by
    unfold comm
    refine List.Pairwise.filter _ ?_
    unfold six
    simp
  have hn : (comm l).Nodup := by
    unfold comm
    refine List.Pairwise.filter _ ?_
    unfold six
    simp
  have hp : List.Perm (((l.filter isC).map (·.f0)).mergeSort fun x y => decide (x ≤ y)) (comm l) :=
    (List.mergeSort_perm _ _).trans ((List.perm_ext_iff_of_nodup (nodup_ends h) hn).2 fun t => (mem_comm h t).symm)
  refine List.Perm.eq_of_pairwise (le := fun x y => (decide (x ≤ y)) = true) (fun a b _ _ h1 h2 => ?_) ?_ hs hp
  · have h1 := of_decide_eq_true h1
    have h2 := of_decide_eq_true h2
    omega
  · refine List.pairwise_mergeSort (fun a b c h1 h2 => ?_) (fun a b => ?_) _
    · have h1 := of_decide_eq_true h1
      have h2 := of_decide_eq_true h2
      exact decide_eq_true (by omega)
    · by_cases h : a ≤ b
      · simp [h]
      · have : b ≤ a := by omega
        simp [this]
theorem comm_spec (l : List H) (hl : l.length ≤ 4096) : Ev (fun k => spec_l08Committed.f k l) (comm l) := by
  unfold spec_l08Committed.f
  have hst : ∀ (t : Int) (acc : List Int) (r : List Int), 0 ≤ t → t < 6 → acc.length < 17592186044416 → Ev (fun k => spec_l08Committed.l0 k l (acc ++ (if one l t = true then [t] else [])) (t + 1)) r → Ev (fun k => spec_l08Committed.l0 k l acc t) r := by
    intro t acc r h0 h6 ha hr
    have hw : wrap64 (t + 1) = t + 1 := wrap_id (by omega) (by omega)
    refine Ev.step (f := fun k => (spec_l08Done.f k l t).bind fun d => if d ≥ 0 then (if 0 ≤ d then (if d < (l.length : Int) then (if (rd_T47 l d).f1 = 3 then (if acc.length < 17592186044416 then spec_l08Committed.l0 k l (acc ++ [t]) (wrap64 (t + 1)) else none) else spec_l08Committed.l0 k l acc (wrap64 (t + 1))) else none) else none) else spec_l08Committed.l0 k l acc (wrap64 (t + 1))) (fun k => by simp only [spec_l08Committed.l0]; rw [if_pos h6]) (Ev.bind (done_spec l t (by omega)) ?_)
    rw [hw]
    by_cases hd : done l t ≥ 0
    · have hlt : done l t < (l.length : Int) := by
        unfold done at hd ⊢
        cases hf : l.findIdx? (isDone t) with
        | none => rw [hf] at hd; simp only at hd; omega
        | some q =>
          obtain ⟨hq, _⟩ := List.findIdx?_eq_some_iff_getElem.1 hf
          simp only
          omega
      have hrd : rd_T47 l (done l t) = l.getD (done l t).toNat z47 := rfl
      by_cases h3 : (l.getD (done l t).toNat z47).f1 = 3
      · have h1 : one l t = true := by unfold one; rw [h3, decide_eq_true hd]; rfl
        rw [h1, if_pos rfl] at hr
        exact Ev.congr (fun _ => by rw [if_pos hd, if_pos hd, if_pos hlt, hrd, if_pos h3, if_pos ha]) hr
      · have h1 : one l t = false := by unfold one; rw [decide_eq_false h3, Bool.and_false]
        rw [h1, if_neg (by simp), List.append_nil] at hr
        exact Ev.congr (fun _ => by rw [if_pos hd, if_pos hd, if_pos hlt, hrd, if_neg h3]) hr
    · have h1 : one l t = false := by unfold one; rw [decide_eq_false hd, Bool.false_and]
      rw [h1, if_neg (by simp), List.append_nil] at hr
      exact Ev.congr (fun _ => if_neg hd) hr
  have b : ∀ t, (if one l t = true then [t] else []).length ≤ 1 := fun t => by split <;> simp
  refine hst 0 [] _ (by omega) (by omega) (by simp) (hst 1 _ _ (by omega) (by omega) ?_ (hst 2 _ _ (by omega) (by omega) ?_ (hst 3 _ _ (by omega) (by omega) ?_ (hst 4 _ _ (by omega) (by omega) ?_ (hst 5 _ _ (by omega) (by omega) ?_ ?_)))))
  case refine_6 =>
    have he : ((((((([] : List Int) ++ (if one l 0 = true then [0] else [])) ++ (if one l (0 + 1) = true then [0 + 1] else [])) ++ (if one l (1 + 1) = true then [1 + 1] else [])) ++ (if one l (2 + 1) = true then [2 + 1] else [])) ++ (if one l (3 + 1) = true then [3 + 1] else [])) ++ (if one l (4 + 1) = true then [4 + 1] else [])) = comm l := by
      unfold comm six
      simp only [List.filter_cons, List.filter_nil, List.nil_append, Int.zero_add, show (1 : Int) + 1 = 2 from rfl, show (2 : Int) + 1 = 3 from rfl, show (3 : Int) + 1 = 4 from rfl, show (4 : Int) + 1 = 5 from rfl]
      cases one l 0 <;> cases one l 1 <;> cases one l 2 <;> cases one l 3 <;> cases one l 4 <;> cases one l 5 <;> rfl
    rw [← he]
    exact Ev.step (f := fun _ => some _) (fun k => by simp only [spec_l08Committed.l0]; rw [if_neg (by omega)]; rfl) (Ev.now _)
  all_goals
    simp only [List.length_append, List.length_nil]
    have b0 := b 0
    have b1 := b 1
    have b2 := b 2
    have b3 := b 3
    have b4 := b 4
    omega
theorem comm_impl (l : List H) (hl : l.length ≤ 4096) : Ev (fun k => impl_committed.f k l) (((l.filter isC).map (·.f0)).mergeSort fun x y => decide (x ≤ y)) := by
  unfold impl_committed.f
  have key : ∀ (d i : Nat) (acc : List Int), i + d = l.length → acc.length ≤ i → Ev (fun k => impl_committed.l0 k acc l (l.length : Int) (i : Int)) ((acc ++ ((l.drop i).filter isC).map (·.f0)).mergeSort fun x y => decide (x ≤ y)) := by
    intro d
    induction d with
    | zero =>
      intro i acc hi ha
      rw [List.drop_eq_nil_of_le (by omega), List.filter_nil, List.map_nil, List.append_nil]
      exact Ev.step (f := fun _ => some _) (fun k => by simp only [impl_committed.l0]; rw [if_neg (by omega)]; unfold slices_Sort_int_int.f; rw [if_pos (by omega)]; rfl) (Ev.now _)
    | succ d ih =>
      intro i acc hi ha
      have hlt : i < l.length := by omega
      rw [List.drop_eq_getElem_cons hlt, List.filter_cons]
      by_cases hc : l[i].f1 = 3
      · have : isC l[i] = true := decide_eq_true hc
        rw [this, if_pos rfl, List.map_cons]
        have := ih (i + 1) (acc ++ [l[i].f0]) (by omega) (by rw [List.length_append]; simp; omega)
        rw [List.append_assoc] at this
        refine Ev.step (fun k => ?_) this
        simp only [impl_committed.l0]
        rw [if_pos (by omega), if_pos (by omega), if_pos (by omega), rdH l i hlt, if_pos hc, if_pos (by omega), next_ (n := l.length) hlt (by omega)]
      · have : isC l[i] = false := decide_eq_false hc
        rw [this, if_neg (by simp)]
        refine Ev.step (fun k => ?_) (ih (i + 1) acc (by omega) (by omega))
        simp only [impl_committed.l0]
        rw [if_pos (by omega), if_pos (by omega), if_pos (by omega), rdH l i hlt, if_neg hc, next_ (n := l.length) hlt (by omega)]
  simpa using key l.length 0 [] (by omega) (by simp)
end Go.Proofs.Ytopajfpfjfbjcaa.CommP
