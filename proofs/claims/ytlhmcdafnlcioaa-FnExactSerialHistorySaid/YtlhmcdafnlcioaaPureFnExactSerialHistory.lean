/- For all histories and orders within the law's size the program's SerialHistory answers what the reference's answers, in memory of its own, and the arguments are unchanged; no condition. -/
import Derived.Test.YtlhmcdafnlcioaaXOpenFnExactSerialHistory
import Derived.Test.YtlhmcdafnlcioaaMarkH
namespace Go.Proofs.Ytlhmcdafnlcioaa.fnExactSerialHistory.Pure
set_option maxRecDepth 100000
open Go Go.RowKit Go.Proofs.Ytlhmcdafnlcioaa.XH Go.Proofs.YtlhmcdafnlcioaaW.PrintWords Go.Proofs.YtlhmcdafnlcioaaW.PrintLast Go.Proofs.YtlhmcdafnlcioaaW.PrintMore Go.Proofs.Ytlhmcdafnlcioaa.Opn Go.Proofs.Ytlhmcdafnlcioaa.Aid Go.Proofs.Ytlhmcdafnlcioaa.Loops Go.Proofs.Ytlhmcdafnlcioaa.HistH Go.Proofs.Ytlhmcdafnlcioaa.MarkH
set_option linter.unusedVariables false

/-- The acts of one. -/
def sel (l : List H) (t : Int) : List H := l.filter fun x => decide (x.f0 = t)
/-- Does a place bear what stands ahead of it? -/
def hasAt (o : List Int) (i : Nat) : Bool := (List.range (o.take i).length).any fun (j : Nat) => decide (rd (o.take i) (j : Int) = rd o (i : Int))
def twice (o : List Int) : Bool := (List.range o.length).any (hasAt o)
def out (l : List H) (o : List Int) : List H × Int :=
  if (o.length : Int) > 4096 then ([], 2) else if (l.length : Int) > 4096 then ([], 2) else if ok l = true then (if twice o = true then ([], 9) else (o.flatMap (sel l), 0)) else ([], 1)

theorem sel_len (l : List H) (t : Int) : (sel l t).length ≤ l.length := List.length_filter_le _ _
theorem rdI (o : List Int) (i : Nat) (h : i < o.length) : rd o (i : Int) = o[i] := by simp [rd, List.getD_eq_getElem?_getD, List.getElem?_eq_getElem h]
theorem sel_step (l : List H) (t : Int) (i : Nat) (h : i < l.length) : sel (l.drop i) t = if l[i].f0 = t then l[i] :: sel (l.drop (i + 1)) t else sel (l.drop (i + 1)) t := by
  rw [List.drop_eq_getElem_cons h]
  unfold sel
  rw [List.filter_cons]
  by_cases e : l[i].f0 = t
  · simp [e]
  · simp [e]

/-! The reference -/
theorem spec_inner (l : List H) (o : List Int) (i : Nat) (hi : i < o.length) (ho : o.length ≤ 1048576) (hl : l.length ≤ 60) (r : List H × Int) : ∀ (d j : Nat) (acc : List H), j + d = l.length → (acc.length : Int) + d ≤ 1000000 →
    Ev (fun k => spec_SerialHistory.l0 k l o (acc ++ sel (l.drop j) (rd o (i : Int))) ((i + 1 : Nat) : Int)) r → Ev (fun k => spec_SerialHistory.l1 k l o acc (i : Int) (j : Int)) r := by
  intro d
  induction d with
  | zero =>
    intro j acc hj ha hr
    rw [List.drop_eq_nil_of_le (by omega), show sel [] (rd o (i : Int)) = [] from rfl, List.append_nil] at hr
    refine Ev.step (fun k => ?_) hr
    simp only [spec_SerialHistory.l1]
    rw [if_neg (by omega), wrap_id (by omega) (by omega)]
    rfl
  | succ d ih =>
    intro j acc hj ha hr
    have hlt : j < l.length := by omega
    rw [sel_step l _ j hlt] at hr
    by_cases e : l[j].f0 = rd o (i : Int)
    · rw [if_pos e] at hr
      refine Ev.step (fun k => ?_) (ih (j + 1) (acc ++ [l[j]]) (by omega) (by rw [List.length_append]; simp; omega) (by rw [List.append_assoc]; exact hr))
      simp only [spec_SerialHistory.l1]
      rw [if_pos (by omega), if_pos (by omega), if_pos (by omega), if_pos (by omega), rdH l j hlt, if_pos e, if_pos (by omega), next_ (n := l.length) hlt (by omega)]
    · rw [if_neg e] at hr
      refine Ev.step (fun k => ?_) (ih (j + 1) acc (by omega) (by omega) hr)
      simp only [spec_SerialHistory.l1]
      rw [if_pos (by omega), if_pos (by omega), if_pos (by omega), if_pos (by omega), rdH l j hlt, if_neg e, next_ (n := l.length) hlt (by omega)]
theorem has_ev (xs : List Int) (x : Int) (hl : xs.length ≤ 1048576) : Ev (fun k => spec_l03Has.f k xs x) ((List.range xs.length).any fun (j : Nat) => decide (rd xs (j : Int) = x)) := by
  unfold spec_l03Has.f
  exact anyE (fun k i => spec_l03Has.l0 k xs x i) xs.length (fun i => rd xs i = x) (by omega) (fun _ _ => rfl)
theorem spec_outer (l : List H) (o : List Int) (ho : o.length ≤ 4096) (hl : l.length ≤ 60) : ∀ (d i : Nat) (acc : List H), i + d = o.length → acc.length ≤ 60 * i →
    Ev (fun k => spec_SerialHistory.l0 k l o acc (i : Int)) (if ((List.range o.length).drop i).any (hasAt o) = true then ([], 9) else (acc ++ (o.drop i).flatMap (sel l), 0)) := by
  intro d
  induction d with
  | zero =>
    intro i acc hi ha
    rw [List.drop_eq_nil_of_le (by simp; omega), List.any_nil, List.drop_eq_nil_of_le (by omega), List.flatMap_nil, List.append_nil, if_neg (by simp)]
    exact Ev.step (f := fun _ => some (acc, 0)) (fun k => by simp only [spec_SerialHistory.l0]; rw [if_neg (by omega)]) (Ev.now _)
  | succ d ih =>
    intro i acc hi ha
    have hlt : i < o.length := by omega
    rw [List.drop_eq_getElem_cons (by simp; omega), List.any_cons, List.getElem_range, List.drop_eq_getElem_cons (l := o) hlt, List.flatMap_cons, ← List.append_assoc]
    refine Ev.step (f := fun k => (spec_l03Has.f k (o.take i) (rd o (i : Int))).bind fun t => if t = true then some ([], 9) else spec_SerialHistory.l1 k l o acc (i : Int) 0) (fun k => ?_) (Ev.bind (has_ev (o.take i) (rd o (i : Int)) (by rw [List.length_take]; omega)) ?_)
    · simp only [spec_SerialHistory.l0]
      rw [if_pos (by omega), if_pos (by omega), if_pos (by omega), Int.toNat_natCast]
    · show Ev (fun k => if hasAt o i = true then some ([], 9) else spec_SerialHistory.l1 k l o acc (i : Int) 0) _
      cases hh : hasAt o i with
      | true => exact Ev.congr (fun _ => if_pos rfl) (Ev.now _)
      | false =>
        rw [Bool.false_or]
        refine Ev.congr (fun _ => if_neg (by simp)) (spec_inner l o i hlt (by omega) hl _ l.length 0 acc (by omega) (by omega) ?_)
        rw [List.drop_zero, rdI o i hlt]
        exact ih (i + 1) (acc ++ sel l o[i]) (by omega) (by rw [List.length_append]; have := sel_len l o[i]; omega)
theorem spec_ev (l : List H) (o : List Int) (hl : l.length ≤ 1048576) (ho : o.length ≤ 1048576) : Ev (fun k => spec_SerialHistory.f k l o) (out l o) := by
  unfold spec_SerialHistory.f out
  have stop : Ev (fun k => spec_SerialHistory.j0 k l o true) ([], 2) := Ev.step (f := fun _ => some ([], 2)) (fun k => by simp only [spec_SerialHistory.j0, if_true]) (Ev.now _)
  by_cases h1 : (l.length : Int) > 4096
  · have e : (if (o.length : Int) > 4096 then (([], 2) : List H × Int) else if (l.length : Int) > 4096 then ([], 2) else if ok l = true then (if twice o = true then ([], 9) else (o.flatMap (sel l), 0)) else ([], 1)) = ([], 2) := by
      split <;> rfl
    rw [e]
    exact Ev.congr (fun _ => if_pos h1) stop
  by_cases h2 : (o.length : Int) > 4096
  · rw [if_pos h2]
    exact Ev.congr (fun _ => by rw [if_neg h1, decide_eq_true h2]) stop
  rw [if_neg h2, if_neg h1]
  refine Ev.congr (fun _ => by rw [if_neg h1, decide_eq_false h2]) ?_
  refine Ev.step (f := fun k => (spec_HistoryOK.f k l).bind fun t => if t = true then spec_SerialHistory.l0 k l o [] 0 else some ([], 1)) (fun k => by simp only [spec_SerialHistory.j0, Bool.false_eq_true, if_false]) (Ev.bind (ok_spec l hl) ?_)
  cases hok : ok l with
  | false => exact Ev.congr (fun _ => if_neg (by simp)) (Ev.now _)
  | true =>
    refine Ev.congr (fun _ => if_pos rfl) ?_
    have := spec_outer l o (by omega) (ok_len hok) o.length 0 [] (by omega) (by simp)
    simpa [twice] using this

/-! The program -/
theorem impl_inner (l : List H) (o : List Int) (i : Nat) (hi : i < o.length) (ho : o.length ≤ 1048576) (hl : l.length ≤ 60) (t : Int) (r : List H × Int) : ∀ (d j : Nat) (acc : List H), j + d = l.length → (acc.length : Int) + d ≤ 1000000 →
    Ev (fun k => impl_SerialHistory.l0 k l (acc ++ sel (l.drop j) t) o (o.length : Int) ((i + 1 : Nat) : Int)) r → Ev (fun k => impl_SerialHistory.l1 k l acc t o (o.length : Int) (i : Int) l (l.length : Int) (j : Int)) r := by
  intro d
  induction d with
  | zero =>
    intro j acc hj ha hr
    rw [List.drop_eq_nil_of_le (by omega), show sel [] t = [] from rfl, List.append_nil] at hr
    refine Ev.step (fun k => ?_) hr
    simp only [impl_SerialHistory.l1]
    rw [if_neg (by omega), wrap_id (by omega) (by omega)]
    rfl
  | succ d ih =>
    intro j acc hj ha hr
    have hlt : j < l.length := by omega
    rw [sel_step l _ j hlt] at hr
    by_cases e : l[j].f0 = t
    · rw [if_pos e] at hr
      refine Ev.step (fun k => ?_) (ih (j + 1) (acc ++ [l[j]]) (by omega) (by rw [List.length_append]; simp; omega) (by rw [List.append_assoc]; exact hr))
      simp only [impl_SerialHistory.l1]
      rw [if_pos (by omega), if_pos (by omega), if_pos (by omega), rdH l j hlt, if_pos e, if_pos (by omega), next_ (n := l.length) hlt (by omega)]
    · rw [if_neg e] at hr
      refine Ev.step (fun k => ?_) (ih (j + 1) acc (by omega) (by omega) hr)
      simp only [impl_SerialHistory.l1]
      rw [if_pos (by omega), if_pos (by omega), if_pos (by omega), rdH l j hlt, if_neg e, next_ (n := l.length) hlt (by omega)]
theorem contains_ev (xs : List Int) (x : Int) (hl : xs.length ≤ 1048576) : Ev (fun k => slices_Contains_int_int.f k xs x) ((List.range xs.length).any fun (j : Nat) => decide (rd xs (j : Int) = x)) := by
  unfold slices_Contains_int_int.f slices_Index_int_int.f
  obtain ⟨r, hr, hd⟩ := idxE (fun k i => slices_Index_int_int.l0 k xs x (xs.length : Int) i) xs.length (fun i => rd xs i = x) (by omega) (fun k i => by
    simp only [slices_Index_int_int.l0]
    by_cases h1 : i < (xs.length : Int)
    · by_cases h2 : 0 ≤ i
      · simp only [if_pos h1, if_pos h2]
        by_cases h3 : x = rd xs i
        · rw [if_pos h3, if_pos h3.symm]
        · rw [if_neg h3, if_neg (fun e => h3 e.symm)]
      · simp only [if_pos h1, if_neg h2]
    · simp only [if_neg h1])
  rw [← hd]
  exact Ev.bind hr (Ev.now _)
theorem twice_ev (o : List Int) (ho : o.length ≤ 1048576) : Ev (fun k => impl_isTwice.f k o) (twice o) := by
  unfold impl_isTwice.f twice
  have key : ∀ (d i : Nat), i + d = o.length → Ev (fun k => impl_isTwice.l0 k o o (o.length : Int) (i : Int)) (((List.range o.length).drop i).any (hasAt o)) := by
    intro d
    induction d with
    | zero =>
      intro i hi
      rw [List.drop_eq_nil_of_le (by simp; omega), List.any_nil]
      exact Ev.step (f := fun _ => some false) (fun k => by simp only [impl_isTwice.l0]; rw [if_neg (by omega)]) (Ev.now _)
    | succ d ih =>
      intro i hi
      have hlt : i < o.length := by omega
      rw [List.drop_eq_getElem_cons (by simp; omega), List.any_cons, List.getElem_range]
      refine Ev.step (f := fun k => (slices_Contains_int_int.f k (o.take i) (rd o (i : Int))).bind fun t => if t = true then some true else impl_isTwice.l0 k o o (o.length : Int) ((i + 1 : Nat) : Int)) (fun k => ?_) (Ev.bind (contains_ev (o.take i) (rd o (i : Int)) (by rw [List.length_take]; omega)) ?_)
      · simp only [impl_isTwice.l0]
        rw [if_pos (by omega), if_pos (by omega), if_pos (by omega), if_pos (by omega), Int.toNat_natCast, next_ (n := o.length) hlt (by omega)]
      · show Ev (fun k => if hasAt o i = true then some true else impl_isTwice.l0 k o o (o.length : Int) ((i + 1 : Nat) : Int)) _
        cases hasAt o i with
        | true => exact Ev.congr (fun _ => if_pos rfl) (Ev.now _)
        | false =>
          rw [Bool.false_or]
          exact Ev.congr (fun _ => if_neg (by simp)) (ih (i + 1) (by omega))
  simpa using key o.length 0 (by omega)
theorem impl_outer (l : List H) (o : List Int) (ho : o.length ≤ 4096) (hl : l.length ≤ 60) : ∀ (d i : Nat) (acc : List H), i + d = o.length → acc.length ≤ 60 * i →
    Ev (fun k => impl_SerialHistory.l0 k l acc o (o.length : Int) (i : Int)) (acc ++ (o.drop i).flatMap (sel l), 0) := by
  intro d
  induction d with
  | zero =>
    intro i acc hi ha
    rw [List.drop_eq_nil_of_le (by omega), List.flatMap_nil, List.append_nil]
    exact Ev.step (f := fun _ => some (acc, 0)) (fun k => by simp only [impl_SerialHistory.l0]; rw [if_neg (by omega)]) (Ev.now _)
  | succ d ih =>
    intro i acc hi ha
    have hlt : i < o.length := by omega
    rw [List.drop_eq_getElem_cons (l := o) hlt, List.flatMap_cons, ← List.append_assoc]
    refine Ev.step (f := fun k => impl_SerialHistory.l1 k l acc o[i] o (o.length : Int) (i : Int) l (l.length : Int) ((0 : Nat) : Int)) (fun k => ?_) (impl_inner l o i hlt (by omega) hl o[i] _ l.length 0 acc (by omega) (by omega) ?_)
    · simp only [impl_SerialHistory.l0]
      rw [if_pos (by omega), if_pos (by omega), if_pos (by omega), rdI o i hlt]
      rfl
    · rw [List.drop_zero]
      exact ih (i + 1) (acc ++ sel l o[i]) (by omega) (by rw [List.length_append]; have := sel_len l o[i]; omega)
theorem impl_ev (l : List H) (o : List Int) (hl : l.length ≤ 1048576) (ho : o.length ≤ 1048576) : Ev (fun k => impl_SerialHistory.f k l o) (out l o) := by
  unfold impl_SerialHistory.f out impl_historyCode.f
  by_cases h2 : (o.length : Int) > 4096
  · rw [if_pos h2]
    exact Ev.congr (fun _ => if_pos h2) (Ev.now _)
  rw [if_neg h2]
  refine Ev.congr (fun _ => if_neg h2) ?_
  by_cases h1 : (l.length : Int) > 4096
  · simp only [if_pos h1, Option.bind_some]
    exact Ev.congr (fun _ => if_neg (by omega)) (Ev.now _)
  simp only [if_neg h1, ok_impl, Option.bind_some]
  cases hok : ok l with
  | false =>
    simp only [Bool.false_eq_true, if_false, Option.bind_some]
    exact Ev.congr (fun _ => if_neg (by omega)) (Ev.now _)
  | true =>
    simp only [if_true, Option.bind_some]
    refine Ev.bind (twice_ev o ho) ?_
    cases twice o with
    | true => exact Ev.congr (fun _ => if_pos rfl) (Ev.now _)
    | false =>
      refine Ev.congr (fun _ => if_neg (by simp)) ?_
      have := impl_outer l o (by omega) (ok_len hok) o.length 0 [] (by omega) (by simp)
      simpa using this
theorem out_len (l : List H) (o : List Int) : (out l o).1.length ≤ 245760 := by
  have hs : ∀ (q : List Int), (q.flatMap (sel l)).length ≤ l.length * q.length := by
    intro q
    induction q with
    | nil => simp
    | cons a q ih =>
      rw [List.flatMap_cons, List.length_append, List.length_cons, Nat.mul_succ]
      have := sel_len l a
      omega
  unfold out
  by_cases h2 : (o.length : Int) > 4096
  · rw [if_pos h2]; simp
  rw [if_neg h2]
  by_cases h1 : (l.length : Int) > 4096
  · rw [if_pos h1]; simp
  rw [if_neg h1]
  cases hok : ok l with
  | false => simp
  | true =>
    have h60 := ok_len hok
    cases twice o with
    | true => simp
    | false =>
      have := hs o
      have hm : l.length * o.length ≤ 60 * 4096 := Nat.mul_le_mul h60 (by omega)
      simp only [if_true, Bool.false_eq_true, if_false]
      omega

theorem FnExactSerialHistory : Pure := by
  intro l o hd hd'
  have ll : l.length ≤ 9223372036854775807 := by simpa [maxLen] using hd.1
  have wl : ∀ x ∈ l, x.f2.size ≤ 9223372036854775807 ∧ x.f3.size ≤ 9223372036854775807 := fun x hx => by simpa [Wfstr, maxLen] using (hd.2 x hx).2.2
  refine Ev.rounds ?_
  unfold laws_FnExactSerialHistory.f
  by_cases hb : (o.length : Int) > 1048576
  · exact Ev.congr (fun _ => if_pos hb) (Ev.now _)
  refine Ev.congr (fun _ => if_neg hb) ?_
  obtain ⟨r, h1, h2, h3⟩ := hops_size l ll wl 1048576 (by omega) (by omega)
  refine Ev.bind h1 ?_
  by_cases hr : r < 0
  · exact Ev.congr (fun k => if_pos hr) (Ev.now _)
  refine Ev.congr (fun k => if_neg hr) ?_
  have s1 := h3 (by omega)
  have s2 : (l.map conv).length ≤ 1048576 := by rw [List.length_map]; exact s1
  have s3 : o.length ≤ 1048576 := by omega
  have c := hops_copy l s1
  have ci := ints_copy o s3
  generalize l.map conv = m at c s2
  have hs := spec_ev m o s2 s3
  have hi := impl_ev m o s2 s3
  have hol := out_len m o
  generalize out m o = q at hs hi hol
  obtain ⟨g, e⟩ := q
  simp only at hol
  have hsame := hops_same g (by omega)
  refine Ev.bind c (Ev.bind ci (Ev.bind hs (Ev.bind c (Ev.bind ci (Ev.bind hi (Ev.bind hsame (Ev.congr (fun _ => if_pos rfl) ?_)))))))
  have n1 : (e != e) = false := by simp
  simp only [n1]
  have mk := hops_mark m 1 (by omega) (by omega)
  have mi := ints_mark o (1 + 4 * m.length) (by omega) (by omega)
  have mg := hops_mark g 1 (by omega) (by omega)
  have hg := hops_held g.length 1 (by omega) (by omega)
  refine Ev.step (fun k => laws_FnExactSerialHistory.j0.eq_2 ..) (Ev.congr (fun _ => if_neg (by simp)) (Ev.bind c (Ev.bind (hops_same m s2) (Ev.congr (fun _ => if_pos rfl) (Ev.bind ci (Ev.bind (ints_same o s3) (Ev.congr (fun _ => if_pos rfl) (Ev.bind mk (Ev.bind mi (Ev.congr (fun _ => if_neg (by first | omega | (simp only; omega))) (Ev.bind hsame (Ev.congr (fun _ => if_pos rfl) ?_))))))))))))
  simp only [n1]
  refine Ev.step (fun k => laws_FnExactSerialHistory.j1.eq_2 ..) (Ev.congr (fun _ => if_neg (by simp)) (Ev.bind mg (Ev.bind hg (Ev.congr (fun _ => if_neg (by omega)) (Ev.congr (fun _ => if_pos rfl) (Ev.bind c (Ev.bind ci (Ev.bind hi (Ev.bind hsame (Ev.congr (fun _ => if_pos rfl) ?_))))))))))
  simp only [n1]
  refine Ev.step (fun k => laws_FnExactSerialHistory.j2.eq_2 ..) (Ev.congr (fun _ => if_neg (by simp)) (Ev.bind hg (Ev.congr (fun _ => if_neg (by omega)) (Ev.congr (fun _ => if_pos rfl) (Ev.now _)))))

end Go.Proofs.Ytlhmcdafnlcioaa.fnExactSerialHistory.Pure
