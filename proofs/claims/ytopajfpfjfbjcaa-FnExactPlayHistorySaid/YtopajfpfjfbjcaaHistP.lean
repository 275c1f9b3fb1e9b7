/- Sizes, copies and likeness of histories, and the history's test on both sides; plain lemmas. -/
import Derived.Test.YtopajfpfjfbjcaaXP1
import Derived.Test.YtopajfpfjfbjcaaXP2
import Derived.Test.YtopajfpfjfbjcaaXP3
import Derived.Test.YtopajfpfjfbjcaaXP8
import Derived.Test.YtopajfpfjfbjcaaXPHHistoryOK
import Derived.Test.YtopajfpfjfbjcaaLoops
namespace Go.Proofs.Ytopajfpfjfbjcaa.HistP
open Go Go.RowKit Go.Proofs.Ytopajfpfjfbjcaa.XP Go.Proofs.YtopajfpfjfbjcaaW.PrintWords Go.Proofs.YtopajfpfjfbjcaaW.PrintLast Go.Proofs.YtopajfpfjfbjcaaW.PrintMore Go.Proofs.Ytopajfpfjfbjcaa.Aid Go.Proofs.Ytopajfpfjfbjcaa.Loops
set_option linter.unusedVariables false

abbrev A := S44
abbrev H := S47
def conv (x : A) : H := ⟨x.f0, x.f1, x.f2, x.f3⟩
theorem rdA (xs : List A) (i : Nat) (h : i < xs.length) : rd_T44 xs (i : Int) = xs[i] := by
  simp [rd_T44, List.getD_eq_getElem?_getD, List.getElem?_eq_getElem h]
theorem rdH (xs : List H) (i : Nat) (h : i < xs.length) : rd_T47 xs (i : Int) = xs[i] := by
  simp [rd_T47, List.getD_eq_getElem?_getD, List.getElem?_eq_getElem h]

theorem hops_size (xs : List A) (hl : xs.length ≤ 9223372036854775807) (hw : ∀ x ∈ xs, x.f2.size ≤ 9223372036854775807 ∧ x.f3.size ≤ 9223372036854775807) (a : Int) (h0 : 0 ≤ a) (h1 : a ≤ 1048576) :
    ∃ r, Ev (fun k => laws_szHOpS.f k xs a) r ∧ r ≤ a ∧ (0 ≤ r → xs.length ≤ 1048576) :=
  szL xs.length hl _ (fun k a => laws_szHOpS.l0 k xs a 0) (fun hs => szE (fun k a i => laws_szHOpS.l0 k xs a i) xs.length (fun _ a i => laws_szHOp.f (rd_T44 xs i).f0 (rd_T44 xs i).f1 (rd_T44 xs i).f2 (rd_T44 xs i).f3 a) 1048576 (by omega)
    (fun i hi a h0 h1 => by
      have h := hw xs[i] (List.getElem_mem hi)
      unfold laws_szHOp.f
      rw [rdA xs i hi, sz_text a xs[i].f2.size h0 h1 (by omega) (by omega)]
      by_cases hn : a - (xs[i].f2.size : Int) < 0
      · exact ⟨-1, Ev.congr (fun _ => if_pos hn) (Ev.now _), by omega⟩
      · rw [sz_text (a - (xs[i].f2.size : Int)) xs[i].f3.size (by omega) (by omega) (by omega) (by omega)]
        by_cases hn' : a - (xs[i].f2.size : Int) - (xs[i].f3.size : Int) < 0
        · exact ⟨-1, Ev.congr (fun _ => by rw [if_neg hn, if_pos hn']) (Ev.now _), by omega⟩
        · exact ⟨_, Ev.congr (fun _ => by rw [if_neg hn, if_neg hn']) (Ev.now _), by omega⟩) (fun _ _ _ => rfl)) (fun _ _ => rfl) a h0 h1
theorem hops_copy (xs : List A) (hl : xs.length ≤ 1048576) : Ev (fun k => laws_toHOpS.f k xs) (xs.map conv) := by
  have h := copyE (fun k ys i => laws_toHOpS.l0 k xs ys i) xs conv (fun _ i => some (conv (rd_T44 xs i))) z47 (by omega) (fun i hi => by rw [rdA xs i hi]; exact Ev.now _) (fun _ _ _ => rfl)
  refine Ev.congr (fun k => ?_) h
  unfold laws_toHOpS.f
  rw [if_pos (by omega), if_pos (by omega), Int.toNat_natCast]
theorem hops_same (xs : List H) (hl : xs.length ≤ 1048576) : Ev (fun k => laws_eqHOpS.f k xs xs) true := by
  unfold laws_eqHOpS.f
  refine Ev.congr (fun k => if_pos rfl) ?_
  exact eqE (fun k i => laws_eqHOpS.l0 k xs xs i) xs.length (xs.length : Int) (fun _ i => laws_eqHOp.f (rd_T47 xs i).f0 (rd_T47 xs i).f1 (rd_T47 xs i).f2 (rd_T47 xs i).f3 (rd_T47 xs i).f0 (rd_T47 xs i).f1 (rd_T47 xs i).f2 (rd_T47 xs i).f3) (by omega) rfl
    (fun i _ => by unfold laws_eqHOp.f; exact Ev.congr (fun _ => by rw [if_pos rfl, if_pos rfl, if_pos rfl, if_pos rfl]) (Ev.now _)) (fun _ _ => rfl)

/-! One act -/
def within (x l h : Int) : Bool := if x ≥ l then decide (x ≤ h) else false
theorem within_impl (x l h : Int) : impl_within.f x l h = some (within x l h) := by
  unfold impl_within.f within
  split <;> rfl
theorem within_spec (x l h : Int) : spec_l01In.f x l h = some (within x l h) := by
  unfold spec_l01In.f within
  split <;> rfl
theorem within_true (x l h : Int) : within x l h = true ↔ l ≤ x ∧ x ≤ h := by
  unfold within
  split <;> simp <;> omega
def key (t : ByteArray) : Bool := within (t.size : Int) 1 80
theorem key_spec (t : ByteArray) : spec_l07Key.f t = some (key t) := by
  unfold spec_l07Key.f key within
  split <;> rfl
theorem key_impl (t : ByteArray) : impl_isKey.f t = some (key t) := by
  unfold impl_isKey.f key
  rw [within_impl]
  rfl
theorem tx_impl (x : Int) : impl_isTx.f x = some (within x 0 5) := by
  unfold impl_isTx.f
  rw [within_impl]
  rfl
def no (t : ByteArray) : Bool := decide (t.toList = ([] : List UInt8))
theorem no_size (t : ByteArray) (h : no t = true) : (t.size : Int) = 0 := by
  have h' : t.toList = [] := of_decide_eq_true h
  have : t.toList.length = t.size := by rw [ByteArray.toList_eq]; exact data_length t
  rw [h'] at this
  simp at this
  omega
/-- An act is right. -/
def right (x : H) : Bool := within x.f0 0 5 && within x.f1 1 4 && (if x.f1 = 1 then key x.f2 && no x.f3 else if x.f1 = 2 then key x.f2 && decide ((x.f3.size : Int) ≤ 200) else no x.f2 && no x.f3)
theorem beq_no (t : ByteArray) : (t.toList == ([] : List UInt8)) = no t := by
  unfold no
  rw [Bool.eq_iff_iff]
  simp
theorem op_right (x : H) : impl_HistoryOK.op x = right x := by
  unfold impl_HistoryOK.op impl_HOp_isOp.f right
  simp only [tx_impl, key_impl, impl_isDatum.f, Option.bind_some, beq_no]
  by_cases k1 : x.f1 = 1
  · have hw : within x.f1 1 4 = true := by rw [within_true]; omega
    simp only [if_pos k1, hw]
    cases within x.f0 0 5 <;> cases key x.f2 <;> cases no x.f3 <;> rfl
  by_cases k2 : x.f1 = 2
  · have hw : within x.f1 1 4 = true := by rw [within_true]; omega
    simp only [if_neg k1, if_pos k2, hw]
    cases within x.f0 0 5 <;> cases key x.f2 <;> simp
  by_cases k3 : x.f1 = 3
  · have hw : within x.f1 1 4 = true := by rw [within_true]; omega
    simp only [if_neg k1, if_neg k2, if_pos k3, hw]
    unfold no
    cases within x.f0 0 5 <;> by_cases h2 : x.f2.toList = [] <;> by_cases h3 : x.f3.toList = [] <;> simp [h2, h3]
  by_cases k4 : x.f1 = 4
  · have hw : within x.f1 1 4 = true := by rw [within_true]; omega
    simp only [if_neg k1, if_neg k2, if_neg k3, if_pos k4, hw]
    unfold no
    cases within x.f0 0 5 <;> by_cases h2 : x.f2.toList = [] <;> by_cases h3 : x.f3.toList = [] <;> simp [h2, h3]
  · have hw : within x.f1 1 4 = false := by
      rw [Bool.eq_false_iff]
      intro h
      rw [within_true] at h
      omega
    simp only [if_neg k1, if_neg k2, if_neg k3, if_neg k4, hw, Bool.and_false, Bool.false_and]
    rfl
theorem right_kind {x : H} (h : right x = true) : 0 ≤ x.f0 ∧ x.f0 ≤ 5 ∧ 1 ≤ x.f1 ∧ x.f1 ≤ 4 := by
  unfold right at h
  simp only [Bool.and_eq_true, within_true] at h
  omega
def en (x : Int) : Bool := decide (x = 3 ∨ x = 4)
theorem en_impl (x : Int) : impl_HistoryOK.en x = en x := by
  unfold impl_HistoryOK.en impl_isEnd.f en
  by_cases k3 : x = 3
  · simp [k3]
  · by_cases k4 : x = 4 <;> simp [k3, k4]
theorem en_right {x : H} (h : right x = true) : en x.f1 = decide (3 ≤ x.f1) := by
  have := right_kind h
  unfold en
  rw [Bool.eq_iff_iff]
  simp
  omega

/-! The end of a transaction -/
def isDone (t : Int) (y : H) : Bool := decide (y.f0 = t ∧ 3 ≤ y.f1)
def done (l : List H) (t : Int) : Int := match l.findIdx? (isDone t) with
  | some j => (j : Int)
  | none => -1
theorem done_spec (l : List H) (t : Int) (hl : l.length ≤ 1048576) : Ev (fun k => spec_l08Done.f k l t) (done l t) := by
  unfold spec_l08Done.f
  have key : ∀ (d i : Nat), i + d = l.length → (∀ j (h : j < l.length), j < i → isDone t l[j] = false) → Ev (fun k => spec_l08Done.l0 k l t (i : Int)) (done l t) := by
    intro d
    induction d with
    | zero =>
      intro i hi hb
      have : done l t = -1 := by
        unfold done
        rw [List.findIdx?_eq_none_iff.2]
        intro x hx
        obtain ⟨j, hj, rfl⟩ := List.getElem_of_mem hx
        exact hb j hj (by omega)
      rw [this]
      exact Ev.step (f := fun _ => some (-1)) (fun k => by simp only [spec_l08Done.l0]; rw [if_neg (by omega)]) (Ev.now _)
    | succ d ih =>
      intro i hi hb
      have hlt : i < l.length := by omega
      by_cases hd : isDone t l[i] = true
      · have : done l t = (i : Int) := by
          unfold done
          rw [List.findIdx?_eq_some_iff_getElem.2 ⟨hlt, hd, fun j hj => by rw [hb j (by omega) hj]; simp⟩]
        rw [this]
        have h2 := of_decide_eq_true hd
        exact Ev.step (f := fun _ => some (i : Int)) (fun k => by simp only [spec_l08Done.l0]; rw [if_pos (by omega), if_pos (by omega), rdH l i hlt, if_pos h2.1, if_pos h2.2]) (Ev.now _)
      · have hd' : isDone t l[i] = false := by simpa using hd
        have h2 := of_decide_eq_false hd'
        refine Ev.step (f := fun k => spec_l08Done.l0 k l t (wrap64 ((i : Int) + 1))) (fun k => ?_) ?_
        · simp only [spec_l08Done.l0]
          rw [if_pos (by omega), if_pos (by omega), rdH l i hlt]
          by_cases e : l[i].f0 = t
          · rw [if_pos e, if_neg (fun h => h2 ⟨e, h⟩)]
          · rw [if_neg e]
        · rw [next_ (n := l.length) hlt (by omega)]
          exact ih (i + 1) (by omega) (fun j hj hji => by
            by_cases e : j = i
            · subst e
              exact hd'
            · exact hb j hj (by omega))
  exact key l.length 0 (by omega) (fun _ _ h => absurd h (Nat.not_lt_zero _))

/-! The whole test -/
def atSpec (l : List H) (i : Nat) : Bool := right (l.getD i z47) && decide (0 ≤ done l (l.getD i z47).f0) && decide ((i : Int) ≤ done l (l.getD i z47).f0)
def ok (l : List H) : Bool := decide (l.length ≤ 60) && (List.range l.length).all (atSpec l)
theorem kindBad {x : H} (a : Bool) (h0 : within x.f0 0 5 = true) (h1 : within x.f1 1 4 = true) (ha : a = !right x) :
    ((x.f1 ≥ 3 → no x.f2 = true → no x.f3 = true → a = false) ∧ (x.f1 ≥ 3 → no x.f2 = false → a = true) ∧ (x.f1 ≥ 3 → no x.f3 = false → a = true) ∧
     (x.f1 = 2 → key x.f2 = true → a = decide ((x.f3.size : Int) > 200)) ∧ (x.f1 < 3 → key x.f2 = false → a = true) ∧ (x.f1 = 1 → key x.f2 = true → a = !no x.f3)) := by
  rw [within_true] at h1
  subst ha
  unfold right
  rw [h0, show within x.f1 1 4 = true by rw [within_true]; exact h1]
  refine ⟨fun h a b => ?_, fun h a => ?_, fun h a => ?_, fun h a => ?_, fun h a => ?_, fun h a => ?_⟩
  · rw [if_neg (by omega), if_neg (by omega), a, b]; rfl
  · rw [if_neg (by omega), if_neg (by omega), a]; rfl
  · rw [if_neg (by omega), if_neg (by omega), a]; cases no x.f2 <;> rfl
  · rw [if_neg (by omega), if_pos h, a, Bool.eq_iff_iff]; simp
  · rw [a]
    by_cases k : x.f1 = 1
    · rw [if_pos k]; rfl
    · rw [if_neg k, if_pos (by omega)]; rfl
  · rw [if_pos h, a]; rfl
theorem ok_spec_round (l : List H) (hl : l.length ≤ 60) (i : Nat) (hi : i < l.length) (r : Bool) (hr : Ev (fun k => spec_HistoryOK.l0 k l (wrap64 ((i : Int) + 1))) r) :
    Ev (fun k => spec_HistoryOK.l0 k l (i : Int)) (atSpec l i && r) := by
  have hx : l.getD i z47 = l[i] := by simp [List.getD_eq_getElem?_getD, List.getElem?_eq_getElem hi]
  unfold atSpec
  rw [hx]
  generalize hxe : l[i] = x
  have fin : ∀ a b c d, Ev (fun k => spec_HistoryOK.j2 k l (i : Int) true a b c d) false := fun a b c d =>
    Ev.step (f := fun _ => some false) (fun k => by simp only [spec_HistoryOK.j2, if_true]) (Ev.now _)
  have go2 : ∀ b c d, Ev (fun k => spec_HistoryOK.j2 k l (i : Int) false x.f0 b c d) (decide (0 ≤ done l x.f0) && decide ((i : Int) ≤ done l x.f0) && r) := by
    intro b c d
    refine Ev.step (f := fun k => (spec_l08Done.f k l x.f0).bind fun t => if t < 0 then some false else if t < (i : Int) then some false else spec_HistoryOK.l0 k l (wrap64 ((i : Int) + 1))) (fun k => by simp only [spec_HistoryOK.j2, Bool.false_eq_true, if_false]) ?_
    refine Ev.bind (done_spec l x.f0 (by omega)) ?_
    by_cases h1 : done l x.f0 < 0
    · rw [decide_eq_false (by omega), Bool.false_and, Bool.false_and]
      exact Ev.congr (fun _ => if_pos h1) (Ev.now _)
    · rw [decide_eq_true (by omega), Bool.true_and]
      by_cases h2 : done l x.f0 < (i : Int)
      · rw [decide_eq_false (by omega), Bool.false_and]
        exact Ev.congr (fun _ => by rw [if_neg h1, if_pos h2]) (Ev.now _)
      · rw [decide_eq_true (by omega), Bool.true_and]
        exact Ev.congr (fun _ => by rw [if_neg h1, if_neg h2]) hr
  have j2 : ∀ (a : Bool) b c d, a = !right x → Ev (fun k => spec_HistoryOK.j2 k l (i : Int) a x.f0 b c d) (right x && decide (0 ≤ done l x.f0) && decide ((i : Int) ≤ done l x.f0) && r) := by
    intro a b c d ha
    cases hrx : right x with
    | true =>
      rw [hrx] at ha
      subst ha
      rw [Bool.true_and]
      exact go2 b c d
    | false =>
      rw [hrx] at ha
      subst ha
      rw [Bool.false_and, Bool.false_and, Bool.false_and]
      exact fin _ _ _ _
  have out : ∀ b, Ev (fun k => spec_HistoryOK.j1 k l (i : Int) true x.f0 x.f1 x.f2 x.f3) b ↔ b = false := by
    intro b
    have h : Ev (fun k => spec_HistoryOK.j1 k l (i : Int) true x.f0 x.f1 x.f2 x.f3) false := Ev.step (f := fun _ => some false) (fun k => by simp only [spec_HistoryOK.j1, if_true]) (Ev.now _)
    constructor
    · rintro ⟨K, hK⟩
      obtain ⟨K', hK'⟩ := h
      have a := hK (max K K') (Nat.le_max_left _ _)
      rw [hK' (max K K') (Nat.le_max_right _ _)] at a
      exact (Option.some.inj a).symm
    · rintro rfl
      exact h
  refine Ev.step (f := fun k => (spec_l01In.f x.f0 0 5).bind fun t => if t = true then ((spec_l01In.f x.f1 1 4).bind fun t' => spec_HistoryOK.j1 k l (i : Int) (!t') x.f0 x.f1 x.f2 x.f3) else spec_HistoryOK.j1 k l (i : Int) true x.f0 x.f1 x.f2 x.f3) (fun k => ?_) ?_
  · simp only [spec_HistoryOK.l0]
    rw [if_pos (by omega), if_pos (by omega), rdH l i hi, hxe]
  simp only [within_spec, Option.bind_some]
  cases h0 : within x.f0 0 5 with
  | false =>
    simp only [Bool.false_eq_true, if_false]
    rw [out]
    unfold right
    rw [h0]
    rfl
  | true =>
    simp only [if_true]
    cases h1 : within x.f1 1 4 with
    | false =>
      rw [Bool.not_false, out]
      unfold right
      rw [h1]
      simp
    | true =>
      rw [Bool.not_true]
      obtain ⟨b1, b2, b3, b4, b5, b6⟩ := kindBad (x := x) (!right x) h0 h1 rfl
      have h1' := h1
      rw [within_true] at h1'
      refine Ev.step (f := fun k => spec_HistoryOK.j2 k l (i : Int) (!right x) x.f0 x.f1 x.f2 x.f3) (fun k => ?_) (j2 _ _ _ _ rfl)
      simp only [spec_HistoryOK.j1, Bool.false_eq_true, if_false, key_spec, Option.bind_some]
      by_cases g : x.f1 ≥ 3
      · rw [if_pos g]
        by_cases n2 : x.f2.toList = ([] : List UInt8)
        · have n2' : no x.f2 = true := decide_eq_true n2
          rw [if_pos n2]
          by_cases n3 : x.f3.toList = ([] : List UInt8)
          · have n3' : no x.f3 = true := decide_eq_true n3
            rw [if_pos n3, if_neg (show ¬ x.f1 < 3 by omega), if_neg (show ¬ x.f1 = 2 by omega), b1 g n2' n3']
            rw [decide_eq_false (by rw [no_size _ n3']; omega)]
          · rw [if_neg n3, b3 g (decide_eq_false n3)]
        · rw [if_neg n2, b2 g (decide_eq_false n2)]
      · rw [if_neg g, if_pos (show x.f1 < 3 by omega)]
        cases hk : key x.f2 with
        | false =>
          simp only [Bool.false_eq_true, if_false]
          rw [b5 (by omega) hk]
        | true =>
          simp only [if_true]
          by_cases k2 : x.f1 = 2
          · rw [if_pos k2, b4 k2 hk]
          · rw [if_neg k2, b6 (by omega) hk]
            by_cases n3 : x.f3.toList = ([] : List UInt8)
            · have n3' : no x.f3 = true := decide_eq_true n3
              rw [if_pos n3, n3', decide_eq_false (by rw [no_size _ n3']; omega)]
              rfl
            · rw [if_neg n3, show no x.f3 = false from decide_eq_false n3]
              rfl
theorem ok_spec (l : List H) (hl : l.length ≤ 1048576) : Ev (fun k => spec_HistoryOK.f k l) (ok l) := by
  unfold spec_HistoryOK.f ok
  by_cases h1 : (l.length : Int) > 4096
  · rw [decide_eq_false (by omega), Bool.false_and]
    exact Ev.congr (fun _ => if_pos h1) (Ev.now _)
  by_cases h2 : (l.length : Int) > 60
  · rw [decide_eq_false (by omega), Bool.false_and]
    exact Ev.congr (fun _ => by rw [if_neg h1, if_pos h2]) (Ev.now _)
  rw [decide_eq_true (by omega), Bool.true_and]
  refine Ev.congr (fun _ => by rw [if_neg h1, if_neg h2]) ?_
  have key : ∀ (d i : Nat), i + d = l.length → Ev (fun k => spec_HistoryOK.l0 k l (i : Int)) (((List.range l.length).drop i).all (atSpec l)) := by
    intro d
    induction d with
    | zero =>
      intro i hi
      obtain rfl : i = l.length := by omega
      rw [List.drop_eq_nil_of_le (by simp), List.all_nil]
      exact Ev.step (f := fun _ => some true) (fun k => by simp only [spec_HistoryOK.l0]; rw [if_neg (by omega)]) (Ev.now _)
    | succ d ih =>
      intro i hi
      rw [List.drop_eq_getElem_cons (by simp; omega), List.all_cons, List.getElem_range]
      refine ok_spec_round l (by omega) i (by omega) _ ?_
      rw [next_ (n := l.length) (by omega) (by omega)]
      exact ih (i + 1) (by omega)
  exact key l.length 0 (by omega)

/-! The program's way: the last act of each -/
def ended (l : List H) (t : Int) : Bool := l.any fun y => decide (y.f0 = t) && en y.f1
theorem scan_says (xs pre : List H) (m : Int → Int) (hE : ∀ t, en (m t) = ended pre t) :
    match impl_HistoryOK.scan xs m with
    | some m' => (∀ i (h : i < xs.length), right xs[i] = true ∧ ended (pre ++ xs.take i) xs[i].f0 = false) ∧ ∀ t, en (m' t) = ended (pre ++ xs) t
    | none => ∃ i, ∃ h : i < xs.length, right xs[i] = false ∨ ended (pre ++ xs.take i) xs[i].f0 = true := by
  induction xs generalizing pre m with
  | nil =>
    refine ⟨fun i h => absurd h (Nat.not_lt_zero _), fun t => ?_⟩
    rw [List.append_nil]
    exact hE t
  | cons x xs ih =>
    unfold impl_HistoryOK.scan
    rw [op_right, en_impl, hE]
    cases hx : right x with
    | false =>
      simp only [Bool.false_and, Bool.false_eq_true, if_false]
      exact ⟨0, by simp, .inl hx⟩
    | true =>
      cases he : ended pre x.f0 with
      | true =>
        simp only [Bool.not_true, Bool.and_false, Bool.false_eq_true, if_false]
        exact ⟨0, by simp, .inr (by simpa using he)⟩
      | false =>
        simp only [Bool.not_false, Bool.and_true, if_true]
        have hE' : ∀ t, en (impl_HistoryOK.st m x t) = ended (pre ++ [x]) t := by
          intro t
          unfold impl_HistoryOK.st ended
          rw [List.any_append]
          by_cases e : t = x.f0
          · subst e
            have := he
            unfold ended at this
            rw [if_pos rfl, this]
            simp
          · rw [if_neg e, hE t]
            have e' : ¬ x.f0 = t := fun h => e h.symm
            unfold ended
            simp [e']
        have h := ih (pre ++ [x]) (impl_HistoryOK.st m x) hE'
        generalize impl_HistoryOK.scan xs (impl_HistoryOK.st m x) = o at h
        cases o with
        | none =>
          obtain ⟨i, hi, h⟩ := h
          refine ⟨i + 1, by simpa using hi, ?_⟩
          simpa using h
        | some m' =>
          obtain ⟨h1, h2⟩ := h
          refine ⟨fun i hi => ?_, fun t => by simpa using h2 t⟩
          cases i with
          | zero => exact ⟨hx, by simpa using he⟩
          | succ i =>
            have := h1 i (by simpa using hi)
            simpa using this
theorem ok_impl (l : List H) : impl_HistoryOK.f l = some (ok l) := by
  unfold impl_HistoryOK.f ok
  congr 1
  by_cases h60 : (l.length : Int) > 60
  · rw [if_pos h60, decide_eq_false (by omega), Bool.false_and]
  rw [if_neg h60, decide_eq_true (by omega), Bool.true_and]
  have h := scan_says l [] (fun _ => 0) (fun t => by simp [en, ended])
  rw [Bool.eq_iff_iff, List.all_eq_true]
  have hget : ∀ i (h : i < l.length), l.getD i z47 = l[i] := fun i hi => by simp [List.getD_eq_getElem?_getD, List.getElem?_eq_getElem hi]
  generalize impl_HistoryOK.scan l (fun _ => 0) = o at h
  cases o with
  | none =>
    obtain ⟨i, hi, h⟩ := h
    constructor
    · intro hf
      cases hf
    · intro hall
      exfalso
      have hi' := hall i (by simpa using hi)
      unfold atSpec at hi'
      rw [hget i hi] at hi'
      simp only [Bool.and_eq_true, decide_eq_true_eq] at hi'
      obtain ⟨⟨r1, r2⟩, r3⟩ := hi'
      rcases h with h | h
      · rw [h] at r1
        cases r1
      · rw [List.nil_append] at h
        unfold ended at h
        rw [List.any_eq_true] at h
        obtain ⟨y, hy, hye⟩ := h
        obtain ⟨j, hj, rfl⟩ := List.getElem_of_mem hy
        have hj2 : j < i ∧ j < l.length := by
          have := hj
          rw [List.length_take] at this
          omega
        rw [List.getElem_take] at hye
        simp only [Bool.and_eq_true, decide_eq_true_eq] at hye
        have hrj := hall j (by simpa using hj2.2)
        unfold atSpec at hrj
        rw [hget j hj2.2] at hrj
        simp only [Bool.and_eq_true, decide_eq_true_eq] at hrj
        have hd : isDone l[i].f0 l[j] = true := by
          have e := hye.2
          rw [en_right hrj.1.1] at e
          exact decide_eq_true ⟨hye.1, of_decide_eq_true e⟩
        unfold done at r3
        cases hf : l.findIdx? (isDone l[i].f0) with
        | none =>
          rw [List.findIdx?_eq_none_iff] at hf
          have := hf l[j] (List.getElem_mem _)
          rw [hd] at this
          cases this
        | some q =>
          rw [hf] at r3
          rw [List.findIdx?_eq_some_iff_getElem] at hf
          obtain ⟨hq, hqd, hb⟩ := hf
          by_cases hjq : j < q
          · have := hb j hjq
            exact this hd
          · simp only at r3
            omega
  | some m =>
    obtain ⟨h1, h2⟩ := h
    simp only [List.nil_append] at h1 h2
    show impl_HistoryOK.fin l (some m) = true ↔ _
    have hfin : impl_HistoryOK.fin l (some m) = true ↔ ∀ x ∈ l, ended l x.f0 = true := by
      show (l.all fun x => impl_HistoryOK.en (m x.f0)) = true ↔ _
      rw [List.all_eq_true]
      constructor
      · intro h x hx
        have := h x hx
        rwa [en_impl, h2] at this
      · intro h x hx
        rw [en_impl, h2]
        exact h x hx
    rw [hfin]
    have hr : ∀ y ∈ l, right y = true := fun y hy => by
      obtain ⟨j, hj, rfl⟩ := List.getElem_of_mem hy
      exact (h1 j hj).1
    have hdone : ∀ t, ∀ y ∈ l, isDone t y = (decide (y.f0 = t) && en y.f1) := by
      intro t y hy
      rw [en_right (hr y hy)]
      unfold isDone
      rw [Bool.eq_iff_iff]
      simp
    constructor
    · intro h i hi
      have hi : i < l.length := by simpa using hi
      unfold atSpec
      rw [hget i hi]
      have hex := h l[i] (List.getElem_mem _)
      unfold ended at hex
      rw [List.any_eq_true] at hex
      obtain ⟨y, hy, hye⟩ := hex
      rw [← hdone _ y hy] at hye
      have hne := (h1 i hi).2
      unfold done
      cases hf : l.findIdx? (isDone l[i].f0) with
      | none =>
        rw [List.findIdx?_eq_none_iff] at hf
        have := hf y hy
        rw [hye] at this
        cases this
      | some q =>
        have hf' := hf
        rw [List.findIdx?_eq_some_iff_getElem] at hf'
        obtain ⟨hq, hqd, hb⟩ := hf'
        have hiq : i ≤ q := by
          by_cases hlt : q < i
          · exfalso
            unfold ended at hne
            rw [List.any_eq_false] at hne
            refine hne l[q] ?_ ?_
            · rw [List.mem_take_iff_getElem]
              exact ⟨q, by omega, rfl⟩
            · rw [← hdone _ _ (List.getElem_mem _)]
              exact hqd
          · omega
        rw [(h1 i hi).1]
        simp only [Bool.true_and, Bool.and_eq_true, decide_eq_true_eq]
        omega
    · intro h x hx
      obtain ⟨i, hi, rfl⟩ := List.getElem_of_mem hx
      have hi' := h i (by simpa using hi)
      unfold atSpec at hi'
      rw [hget i hi] at hi'
      simp only [Bool.and_eq_true, decide_eq_true_eq] at hi'
      obtain ⟨⟨_, r2⟩, _⟩ := hi'
      unfold done at r2
      cases hf : l.findIdx? (isDone l[i].f0) with
      | none =>
        rw [hf] at r2
        simp only at r2
        omega
      | some q =>
        rw [List.findIdx?_eq_some_iff_getElem] at hf
        obtain ⟨hq, hqd, _⟩ := hf
        unfold ended
        rw [List.any_eq_true]
        refine ⟨l[q], List.getElem_mem _, ?_⟩
        rw [← hdone _ _ (List.getElem_mem _)]
        exact hqd
theorem ok_len {l : List H} (h : ok l = true) : l.length ≤ 60 := by
  unfold ok at h
  simp only [Bool.and_eq_true, decide_eq_true_eq] at h
  exact h.1
end Go.Proofs.Ytopajfpfjfbjcaa.HistP
