/- For all pairs of rows within the law's size the program's CompareRows answers what the reference's answers, and the rows are unchanged; no condition. -/
import Derived.Test.YtnljfjicopffbaaXOpenFnExactCompareRows
import Derived.Test.YtnljfjicopffbaaListR
namespace Go.Proofs.Ytnljfjicopffbaa.fnExactCompareRows.Pure
open Go Go.RowKit Go.Proofs.Ytnljfjicopffbaa.XR Go.Proofs.YtnljfjicopffbaaW.PrintWords Go.Proofs.YtnljfjicopffbaaW.PrintLast Go.Proofs.YtnljfjicopffbaaW.PrintMore Go.Proofs.Ytnljfjicopffbaa.Opn
open Go.Proofs.Ytnljfjicopffbaa.Xtra Go.Proofs.Ytnljfjicopffbaa.Aid Go.Proofs.Ytnljfjicopffbaa.ListR

/-- What is less, alike or greater. -/
def sgn (less alike : Bool) : Int := if less then -1 else if alike then 0 else 1
theorem cmp_int (a b : Int) : cmp_Compare_int.f a b = some (sgn (decide (a < b)) (decide (a = b))) := by
  unfold cmp_Compare_int.f cmp_isNaN_int.f sgn
  simp only [bne_self_eq_false, Option.bind_some, Bool.false_eq_true, if_false]
  by_cases h : a < b
  · simp [h]
  · by_cases h' : a = b
    · subst h'
      simp
    · simp [h, h']
      omega
theorem cmp_str (a b : ByteArray) : cmp_Compare_string.f a b = some (sgn (Op.bytesLess a.toList b.toList) (a.toList == b.toList)) := by
  unfold cmp_Compare_string.f cmp_isNaN_string.f sgn
  simp only [bne_self_eq_false, Option.bind_some, Bool.false_eq_true, if_false]
  by_cases h : Op.bytesLess a.toList b.toList = true
  · simp [h]
  · have h0 : Op.bytesLess a.toList b.toList = false := by simpa using h
    by_cases h' : a.toList = b.toList
    · rw [if_neg h, if_neg (by rw [h', less_irrefl]; simp), h0, h']
      simp
    · rw [if_neg h, if_pos (less_total _ _ h0 h'), h0]
      simp [h']
theorem sgn_zero (l e : Bool) : sgn l e = 0 ↔ l = false ∧ e = true := by
  cases l <;> cases e <;> simp [sgn]
theorem or_three (k : Nat) (x y z : Int) : cmp_Or_int.f (k + 4) [x, y, z] = some (if x = 0 then if y = 0 then z else y else x) := by
  unfold cmp_Or_int.f
  by_cases hx : x = 0 <;> by_cases hy : y = 0 <;> by_cases hz : z = 0 <;> simp [cmp_Or_int.l0, rd, w1, w2, w3, hx, hy, hz]
theorem sign_some (l e : Bool) : spec_l01Sign.f l e = some (sgn l e) := by
  unfold spec_l01Sign.f sgn
  cases l <;> cases e <;> rfl
/-- How two values stand. -/
def cmpV (x y : S27) : Int := (spec_l01Compare.f x.f0 x.f1 x.f2 y.f0 y.f1 y.f2).getD 0
theorem compare_alike (k : Nat) (a0 a1 : Int) (a2 : ByteArray) (b0 b1 : Int) (b2 : ByteArray) : ∃ r, spec_l01Compare.f a0 a1 a2 b0 b1 b2 = some r ∧ impl_compareValues.f (k + 4) a0 a1 a2 b0 b1 b2 = some r := by
  unfold impl_compareValues.f spec_l01Compare.f
  rw [cmp_int, cmp_int, cmp_str]
  simp only [Option.bind_some, or_three]
  refine ⟨_, ?_, rfl⟩
  simp only [sign_some, Option.bind_some]
  by_cases h0 : a0 = b0
  · subst h0
    by_cases h1 : a1 = b1
    · subst h1
      simp [sgn]
    · simp only [if_true, sgn_zero, decide_eq_true_eq, h1, and_false, if_false]
      simp [sgn]
  · simp only [sgn_zero, decide_eq_true_eq, h0, and_false, if_false]
    simp
theorem cmpV_spec (x y : S27) : spec_l01Compare.f x.f0 x.f1 x.f2 y.f0 y.f1 y.f2 = some (cmpV x y) := by
  obtain ⟨r, h, _⟩ := compare_alike 0 x.f0 x.f1 x.f2 y.f0 y.f1 y.f2
  unfold cmpV
  rw [h]
  rfl
theorem cmpV_impl (k : Nat) (x y : S27) : impl_compareValues.f (k + 4) x.f0 x.f1 x.f2 y.f0 y.f1 y.f2 = some (cmpV x y) := by
  obtain ⟨r, h, h'⟩ := compare_alike k x.f0 x.f1 x.f2 y.f0 y.f1 y.f2
  unfold cmpV
  rw [h, h']
  rfl

/-- How two rows stand. -/
def cmpR : List S27 → List S27 → Int
  | [], [] => 0
  | [], _ :: _ => -1
  | _ :: _, [] => 1
  | x :: xs, y :: ys => if cmpV x y = 0 then cmpR xs ys else cmpV x y
theorem impl_cmp (k : Nat) : ∀ l m : List S27, impl_CompareRows.c (k + 4) l m = some (cmpR l m)
  | [], [] => rfl
  | [], _ :: _ => rfl
  | _ :: _, [] => rfl
  | x :: xs, y :: ys => by
    simp only [impl_CompareRows.c, cmpR, cmpV_impl, Option.bind_some]
    split
    · exact impl_cmp k xs ys
    · rfl
theorem cmpR_end1 (l m : List S27) (i : Nat) (hl : i < l.length) (hm : m.length ≤ i) : cmpR (l.drop i) (m.drop i) = 1 := by
  rw [List.drop_eq_getElem_cons hl, List.drop_eq_nil_of_le hm]
  rfl
theorem cmpR_end2 (l m : List S27) : cmpR (l.drop l.length) (m.drop l.length) = sgn (decide ((l.length : Int) < (m.length : Int))) (decide (m.length ≤ l.length)) := by
  rw [List.drop_length]
  by_cases h : l.length < m.length
  · rw [List.drop_eq_getElem_cons h]
    simp [cmpR, sgn]
    omega
  · rw [List.drop_eq_nil_of_le (by omega)]
    have h1 : m.length ≤ l.length := by omega
    simp [cmpR, sgn, h1]
theorem spec_cmp (l m : List S27) (hl : l.length ≤ 8) : ∀ (d i : Nat), i + d = l.length → i ≤ m.length → Ev (fun k => spec_l01Rows.l0 k l m (i : Int)) (cmpR (l.drop i) (m.drop i)) := by
  intro d
  induction d with
  | zero =>
    intro i hi hm
    obtain rfl : i = l.length := by omega
    refine Ev.step (f := fun k => spec_l01Rows.j1 k l m (l.length : Int) false) (fun k => ?_) ?_
    · simp only [spec_l01Rows.l0]
      rw [if_neg (by omega)]
    refine Ev.step (f := fun _ => some (cmpR (l.drop l.length) (m.drop l.length))) (fun k => ?_) (Ev.now _)
    simp only [spec_l01Rows.j1, sign_some, Option.bind_some, Bool.false_eq_true, if_false, cmpR_end2]
    congr 2
    rw [Bool.eq_iff_iff, beq_iff_eq, decide_eq_true_eq]
    omega
  | succ d ih =>
    intro i hi hm
    have hil : i < l.length := by omega
    by_cases him : i < m.length
    · have hx := rd27 l i hil
      have hy := rd27 m i him
      have hdl : l.drop i = l[i] :: l.drop (i + 1) := List.drop_eq_getElem_cons hil
      have hdm : m.drop i = m[i] :: m.drop (i + 1) := List.drop_eq_getElem_cons him
      refine Ev.step (f := fun k => spec_l01Rows.j1 k l m (i : Int) true) (fun k => ?_) ?_
      · simp only [spec_l01Rows.l0]
        rw [if_pos (by omega), decide_eq_true (by omega)]
      by_cases hz : cmpV l[i] m[i] = 0
      · refine Ev.step (fun k => ?_) (by
          have := ih (i + 1) (by omega) (by omega)
          rw [hdl, hdm]
          unfold cmpR
          rw [if_pos hz]
          exact this)
        simp only [spec_l01Rows.j1, if_true]
        rw [if_pos (by omega), if_pos (by omega), if_pos (by omega), hx, hy, cmpV_spec, Option.bind_some, if_pos hz, wrap_id (x := (i : Int) + 1) (by omega) (by omega)]
        rfl
      · refine Ev.step (f := fun _ => some (cmpR (l.drop i) (m.drop i))) (fun k => ?_) (Ev.now _)
        simp only [spec_l01Rows.j1, if_true]
        rw [if_pos (by omega), if_pos (by omega), if_pos (by omega), hx, hy, cmpV_spec, Option.bind_some, if_neg hz, hdl, hdm]
        unfold cmpR
        rw [if_neg hz]
    · refine Ev.step (f := fun k => spec_l01Rows.j1 k l m (i : Int) false) (fun k => ?_) ?_
      · simp only [spec_l01Rows.l0]
        rw [if_pos (by omega), decide_eq_false (by omega)]
      refine Ev.step (f := fun _ => some (cmpR (l.drop i) (m.drop i))) (fun k => ?_) (Ev.now _)
      rw [cmpR_end1 l m i hil (by omega)]
      simp only [spec_l01Rows.j1, sign_some, Option.bind_some, Bool.false_eq_true, if_false]
      have h1 : decide ((l.length : Int) < (m.length : Int)) = false := decide_eq_false (by omega)
      have h2 : ((l.length : Int) == (m.length : Int)) = false := beq_eq_false_iff_ne.2 (by omega)
      rw [h1, h2]
      rfl

/-- What both sides answer. -/
def ans (l m : List S27) : Int × Int :=
  if (l.length : Int) > 4096 ∨ (m.length : Int) > 4096 then (0, 2) else if okRow l = true then if okRow m = true then (cmpR l m, 0) else (0, 1) else (0, 1)
theorem ans_impl (l m : List S27) : Ev (fun k => impl_CompareRows.f k l m) (ans l m) := by
  refine ⟨4, fun k hk => ?_⟩
  obtain ⟨j, rfl⟩ : ∃ j, k = j + 4 := ⟨k - 4, by omega⟩
  unfold impl_CompareRows.f ans
  simp only [row_impl, impl_cmp, Option.bind_some]
  split
  · rfl
  · cases okRow l with
    | false => rfl
    | true =>
      cases okRow m with
      | false => rfl
      | true => rfl
theorem ans_spec (l m : List S27) : Ev (fun k => spec_CompareRows.f k l m) (ans l m) := by
  unfold spec_CompareRows.f ans
  have yes : (l.length : Int) > 4096 ∨ (m.length : Int) > 4096 → Ev (fun k => spec_CompareRows.j0 k l m true) (if (l.length : Int) > 4096 ∨ (m.length : Int) > 4096 then ((0, 2) : Int × Int) else if okRow l = true then if okRow m = true then (cmpR l m, 0) else (0, 1) else (0, 1)) := by
    intro h
    rw [if_pos h]
    exact Ev.step (f := fun _ => some (0, 2)) (fun k => by simp only [spec_CompareRows.j0, if_true]) (Ev.now _)
  by_cases h0 : (l.length : Int) > 4096
  · exact Ev.congr (fun k => if_pos h0) (yes (.inl h0))
  by_cases h1 : (m.length : Int) > 4096
  · refine Ev.congr (fun k => if_neg h0) ?_
    rw [decide_eq_true h1]
    exact yes (.inr h1)
  rw [decide_eq_false h1, if_neg (fun hc => hc.elim h0 h1)]
  refine Ev.congr (fun k => if_neg h0) ?_
  refine Ev.step (fun k => by simp only [spec_CompareRows.j0, Bool.false_eq_true, if_false]; rfl) ?_
  refine Ev.bind (row_spec l) ?_
  cases hl : okRow l with
  | false => exact Ev.congr (fun k => if_neg (by simp)) (Ev.now _)
  | true =>
    refine Ev.congr (fun k => if_pos rfl) (Ev.bind (row_spec m) ?_)
    cases hm : okRow m with
    | false => exact Ev.congr (fun k => if_neg (by simp)) (Ev.now _)
    | true =>
      refine Ev.congr (fun k => if_pos rfl) ?_
      have h8 : l.length ≤ 8 := by
        unfold okRow at hl
        simp at hl
        exact hl.1
      have := spec_cmp l m h8 l.length 0 (by omega) (by omega)
      exact Ev.bind (g := fun k => spec_l01Rows.f k l m) (a := cmpR l m) (by simpa [spec_l01Rows.f] using this) (Ev.now _)

theorem FnExactCompareRows : Pure := by
  intro l m hl hm
  have wl : ∀ x ∈ l, x.f2.size ≤ 9223372036854775807 := fun x hx => by
    have := (hl.2 x hx).2.2
    simpa [Wfstr, maxLen] using this
  have wm : ∀ x ∈ m, x.f2.size ≤ 9223372036854775807 := fun x hx => by
    have := (hm.2 x hx).2.2
    simpa [Wfstr, maxLen] using this
  have ll : l.length ≤ 9223372036854775807 := by simpa [maxLen] using hl.1
  have lm : m.length ≤ 9223372036854775807 := by simpa [maxLen] using hm.1
  refine Ev.rounds ?_
  unfold laws_FnExactCompareRows.f
  obtain ⟨r, h1, h2, h3⟩ := sizes l ll wl 1048576 (by omega) (by omega)
  refine Ev.bind h1 ?_
  by_cases hr : r < 0
  · exact Ev.congr (fun k => if_pos hr) (Ev.now _)
  refine Ev.congr (fun k => if_neg hr) ?_
  obtain ⟨r', h4, _, h6⟩ := sizes m lm wm r (by omega) h2
  refine Ev.bind h4 ?_
  by_cases hr' : r' < 0
  · exact Ev.congr (fun k => if_pos hr') (Ev.now _)
  refine Ev.congr (fun k => if_neg hr') ?_
  have c1 := copies l (by have := h3 (by omega); omega)
  have c2 := copies m (by have := h6 (by omega); omega)
  refine Ev.bind c1 (Ev.bind c2 (Ev.bind (ans_spec _ _) (Ev.bind c1 (Ev.bind c2 (Ev.bind (ans_impl _ _) ?_)))))
  refine Ev.congr (fun k => if_pos rfl) ?_
  have e1 := eq_same (l.map conv) (by rw [List.length_map]; have := h3 (by omega); omega)
  have e2 := eq_same (m.map conv) (by rw [List.length_map]; have := h6 (by omega); omega)
  refine Ev.step (fun k => by simp only [laws_FnExactCompareRows.j0, bne_self_eq_false, Bool.false_eq_true, if_false]; rfl) ?_
  refine Ev.bind c1 (Ev.bind e1 (Ev.congr (fun k => if_pos rfl) (Ev.bind c2 (Ev.bind e2 (Ev.congr (fun k => if_pos rfl) (Ev.now _))))))

end Go.Proofs.Ytnljfjicopffbaa.fnExactCompareRows.Pure
