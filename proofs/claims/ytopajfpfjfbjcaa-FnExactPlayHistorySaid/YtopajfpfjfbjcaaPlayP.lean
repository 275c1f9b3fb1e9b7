/- What reads find, and what is left, on both sides; plain lemmas. -/
import Derived.Test.YtopajfpfjfbjcaaXP5
import Derived.Test.YtopajfpfjfbjcaaXP6
import Derived.Test.YtopajfpfjfbjcaaXPHPlayHistory
import Derived.Test.YtopajfpfjfbjcaaCommP
namespace Go.Proofs.Ytopajfpfjfbjcaa.PlayP
open Go Go.RowKit Go.Proofs.Ytopajfpfjfbjcaa.XP Go.Proofs.YtopajfpfjfbjcaaW.PrintWords Go.Proofs.YtopajfpfjfbjcaaW.PrintLast Go.Proofs.YtopajfpfjfbjcaaW.PrintMore Go.Proofs.Ytopajfpfjfbjcaa.Aid Go.Proofs.Ytopajfpfjfbjcaa.Loops Go.Proofs.Ytopajfpfjfbjcaa.HistP Go.Proofs.Ytopajfpfjfbjcaa.CommP
set_option linter.unusedVariables false
set_option linter.unusedSimpArgs false
abbrev E := S70
abbrev look := @impl_PlayHistory.look
abbrev put := @impl_PlayHistory.put
theorem rdI (xs : List Int) (i : Nat) (h : i < xs.length) : rd xs (i : Int) = xs[i] := by
  simp [rd, List.getD_eq_getElem?_getD, List.getElem?_eq_getElem h]
theorem rdE (xs : List E) (i : Nat) (h : i < xs.length) : rd_T70 xs (i : Int) = xs[i] := by
  simp [rd_T70, List.getD_eq_getElem?_getD, List.getElem?_eq_getElem h]
theorem has_spec (l : List Int) (x : Int) (hl : l.length ≤ 1048576) : Ev (fun k => spec_l03Has.f k l x) (decide (x ∈ l)) := by
  unfold spec_l03Has.f
  have key : ∀ (d i : Nat), i + d = l.length → Ev (fun k => spec_l03Has.l0 k l x (i : Int)) (decide (x ∈ l.drop i)) := by
    intro d
    induction d with
    | zero =>
      intro i hi
      rw [List.drop_eq_nil_of_le (by omega)]
      exact Ev.step (f := fun _ => some _) (fun k => by simp only [spec_l03Has.l0]; rw [if_neg (by omega)]; simp) (Ev.now _)
    | succ d ih =>
      intro i hi
      have hlt : i < l.length := by omega
      rw [List.drop_eq_getElem_cons hlt]
      by_cases e : l[i] = x
      · have : decide (x ∈ l[i] :: l.drop (i + 1)) = true := decide_eq_true (by rw [e]; exact List.mem_cons_self)
        rw [this]
        exact Ev.step (f := fun _ => some _) (fun k => by simp only [spec_l03Has.l0]; rw [if_pos (by omega), if_pos (by omega), rdI l i hlt, if_pos e]) (Ev.now _)
      · have : decide (x ∈ l[i] :: l.drop (i + 1)) = decide (x ∈ l.drop (i + 1)) := decide_eq_decide.mpr (by rw [List.mem_cons]; exact or_iff_right (fun h => e h.symm))
        rw [this]
        refine Ev.step (fun k => ?_) (ih (i + 1) (by omega))
        simp only [spec_l03Has.l0]
        rw [if_pos (by omega), if_pos (by omega), rdI l i hlt, if_neg e, next_ (n := l.length) hlt (by omega)]
  exact key l.length 0 (by omega)
theorem has_impl (l : List Int) (x : Int) (hl : l.length ≤ 1048576) : Ev (fun k => slices_Contains_int_int.f k l x) (decide (x ∈ l)) := by
  unfold slices_Contains_int_int.f
  have key : ∀ (d i : Nat), i + d = l.length → ∃ r, Ev (fun k => slices_Index_int_int.l0 k l x (l.length : Int) (i : Int)) r ∧ decide (r ≥ 0) = decide (x ∈ l.drop i) := by
    intro d
    induction d with
    | zero =>
      intro i hi
      rw [List.drop_eq_nil_of_le (by omega)]
      exact ⟨-1, Ev.step (f := fun _ => some _) (fun k => by simp only [slices_Index_int_int.l0]; rw [if_neg (by omega)]) (Ev.now _), by simp⟩
    | succ d ih =>
      intro i hi
      have hlt : i < l.length := by omega
      rw [List.drop_eq_getElem_cons hlt]
      by_cases e : x = l[i]
      · refine ⟨(i : Int), Ev.step (f := fun _ => some _) (fun k => by simp only [slices_Index_int_int.l0]; rw [if_pos (by omega), if_pos (by omega), if_pos (by omega), rdI l i hlt, if_pos e]) (Ev.now _), ?_⟩
        rw [decide_eq_true (by omega), decide_eq_true (by rw [e]; exact List.mem_cons_self)]
      · obtain ⟨r, h1, h2⟩ := ih (i + 1) (by omega)
        refine ⟨r, Ev.step (fun k => ?_) h1, ?_⟩
        · simp only [slices_Index_int_int.l0]
          rw [if_pos (by omega), if_pos (by omega), if_pos (by omega), rdI l i hlt, if_neg e, next_ (n := l.length) hlt (by omega)]
        · rw [h2]
          exact decide_eq_decide.mpr (by rw [List.mem_cons]; exact (or_iff_right e).symm)
  obtain ⟨r, h1, h2⟩ := key l.length 0 (by omega)
  rw [List.drop_zero] at h2
  rw [← h2]
  exact Ev.bind h1 (Ev.now _)
theorem value_spec (st : List E) (x : ByteArray) (hl : st.length ≤ 1048576) : ∃ b, Ev (fun k => spec_l08Value.f k st x) (look st x, b) := by
  unfold spec_l08Value.f
  have key : ∀ (d i : Nat), i + d = st.length → ∃ b, Ev (fun k => spec_l08Value.l0 k st x (i : Int)) (look (st.drop i) x, b) := by
    intro d
    induction d with
    | zero =>
      intro i hi
      rw [List.drop_eq_nil_of_le (by omega)]
      exact ⟨false, Ev.step (f := fun _ => some _) (fun k => by simp only [spec_l08Value.l0]; rw [if_neg (by omega)]; rfl) (Ev.now _)⟩
    | succ d ih =>
      intro i hi
      have hlt : i < st.length := by omega
      rw [List.drop_eq_getElem_cons hlt]
      show ∃ b, Ev _ (impl_PlayHistory.look (st[i] :: st.drop (i + 1)) x, b)
      rw [impl_PlayHistory.look]
      by_cases e : st[i].f0.toList = x.toList
      · rw [if_pos e]
        exact ⟨true, Ev.step (f := fun _ => some _) (fun k => by simp only [spec_l08Value.l0]; rw [if_pos (by omega), if_pos (by omega), rdE st i hlt, if_pos e]) (Ev.now _)⟩
      · rw [if_neg e]
        obtain ⟨b, hb⟩ := ih (i + 1) (by omega)
        refine ⟨b, Ev.step (fun k => ?_) hb⟩
        simp only [spec_l08Value.l0]
        rw [if_pos (by omega), if_pos (by omega), rdE st i hlt, if_neg e, next_ (n := st.length) hlt (by omega)]
  simpa using key st.length 0 (by omega)
def wr (x v : ByteArray) : List S84 := [(⟨x, v, false⟩ : S84)]
theorem rdW (x v : ByteArray) : rd_T84 (wr x v) 0 = (⟨x, v, false⟩ : S84) := rfl
theorem over_tail (st : List E) (x v : ByteArray) (hl : st.length ≤ 1048576) : ∀ (d i : Nat) (acc : List E), i + d = st.length → acc.length ≤ i + 1 → Ev (fun k => spec_l07Over.l0 k st (wr x v) acc 1 (i : Int)) (acc ++ st.drop i) := by
  intro d
  induction d with
  | zero =>
    intro i acc hi ha
    rw [List.drop_eq_nil_of_le (by omega), List.append_nil]
    refine Ev.step (f := fun k => spec_l07Over.j1 k st (wr x v) acc 1 (i : Int) false) (fun k => ?_) (Ev.step (f := fun _ => some acc) (fun k => ?_) (Ev.now _))
    · simp only [spec_l07Over.l0]
      rw [if_neg (by omega)]
      rfl
    · simp only [spec_l07Over.j1]
      rfl
  | succ d ih =>
    intro i acc hi ha
    have hlt : i < st.length := by omega
    rw [List.drop_eq_getElem_cons hlt]
    have h1 := ih (i + 1) (acc ++ [st[i]]) (by omega) (by rw [List.length_append]; simp; omega)
    rw [List.append_assoc] at h1
    refine Ev.step (f := fun k => spec_l07Over.j1 k st (wr x v) acc 1 (i : Int) true) (fun k => ?_) (Ev.step (f := fun k => spec_l07Over.j2 k st (wr x v) acc 1 (i : Int) true) (fun k => ?_) (Ev.step (fun k => ?_) h1))
    · simp only [spec_l07Over.l0]
      rw [if_pos (by omega)]
    · simp only [spec_l07Over.j1]
      rw [if_pos trivial, if_pos (by rfl)]
    · simp only [spec_l07Over.j2]
      rw [if_pos trivial, if_pos (by omega), if_pos (by omega), if_pos (by omega), rdE st i hlt, next_ (n := st.length) hlt (by omega)]
theorem over_spec (st : List E) (x v : ByteArray) (hl : st.length ≤ 1048576) : Ev (fun k => spec_l07Over.f k st (wr x v)) (put st x v) := by
  unfold spec_l07Over.f
  have w1 : wrap64 (0 + 1) = 1 := wrap_id (by omega) (by omega)
  have hw : ((wr x v).length : Int) = 1 := rfl
  have fin : ∀ (i : Nat) (acc : List E) (r : List E) (b : Bool) (j : Int), acc.length ≤ 1048577 → ((b = true ∧ j = wrap64 ((i : Int) + 1)) ∨ (b = false ∧ j = (i : Int))) → Ev (fun k => spec_l07Over.l0 k st (wr x v) (acc ++ [(⟨x, v⟩ : E)]) 1 j) r → Ev (fun k => spec_l07Over.j3 k st (wr x v) acc 0 (i : Int) b) r := by
    intro i acc r b j ha hb hr
    refine Ev.step (f := fun k => spec_l07Over.j4 k st (wr x v) acc 0 j) (fun k => ?_) (Ev.step (fun k => ?_) hr)
    · simp only [spec_l07Over.j3]
      rcases hb with ⟨rfl, rfl⟩ | ⟨rfl, rfl⟩
      · rw [if_pos rfl]
      · rw [if_neg (by simp)]
    · simp only [spec_l07Over.j4, rdW, hw, w1]
      rw [if_pos (by omega), if_pos (by omega), if_neg (by simp), if_pos (by omega)]
  have key : ∀ (d i : Nat) (acc : List E), i + d = st.length → acc.length ≤ i → Ev (fun k => spec_l07Over.l0 k st (wr x v) acc 0 (i : Int)) (acc ++ put (st.drop i) x v) := by
    intro d
    induction d with
    | zero =>
      intro i acc hi ha
      rw [List.drop_eq_nil_of_le (by omega)]
      show Ev _ (acc ++ [(⟨x, v⟩ : E)])
      have h1 := over_tail st x v hl 0 i (acc ++ [(⟨x, v⟩ : E)]) (by omega) (by rw [List.length_append]; simp; omega)
      rw [List.drop_eq_nil_of_le (by omega), List.append_nil] at h1
      refine Ev.step (f := fun k => spec_l07Over.j1 k st (wr x v) acc 0 (i : Int) true) (fun k => ?_) (Ev.step (f := fun k => spec_l07Over.j2 k st (wr x v) acc 0 (i : Int) false) (fun k => ?_) (Ev.step (f := fun k => spec_l07Over.j3 k st (wr x v) acc 0 (i : Int) false) (fun k => ?_) (fin i acc _ false _ (by omega) (.inr ⟨rfl, rfl⟩) h1)))
      · simp only [spec_l07Over.l0]
        rw [if_neg (by omega)]
        rfl
      · simp only [spec_l07Over.j1]
        rw [if_pos trivial, if_neg (by rw [hw]; omega), if_neg (by omega)]
      · simp only [spec_l07Over.j2]
        rw [if_neg (by simp), if_neg (by omega)]
    | succ d ih =>
      intro i acc hi ha
      have hlt : i < st.length := by omega
      rw [List.drop_eq_getElem_cons hlt]
      show Ev _ (acc ++ impl_PlayHistory.put (st[i] :: st.drop (i + 1)) x v)
      rw [impl_PlayHistory.put]
      refine Ev.step (f := fun k => spec_l07Over.j1 k st (wr x v) acc 0 (i : Int) true) (fun k => ?_) (Ev.step (f := fun k => spec_l07Over.j2 k st (wr x v) acc 0 (i : Int) (Op.bytesLess st[i].f0.toList x.toList)) (fun k => ?_) ?_)
      · simp only [spec_l07Over.l0]
        rw [if_pos (by omega)]
      · simp only [spec_l07Over.j1]
        rw [if_pos trivial, if_neg (by rw [hw]; omega), if_pos (by omega), if_pos (by omega), if_pos (by omega), if_pos (by rw [hw]; omega), rdE st i hlt]
        rfl
      · by_cases h1 : Op.bytesLess st[i].f0.toList x.toList = true
        · rw [if_pos h1, h1]
          have h2 := ih (i + 1) (acc ++ [st[i]]) (by omega) (by rw [List.length_append]; simp; omega)
          rw [List.append_assoc] at h2
          refine Ev.step (fun k => ?_) h2
          simp only [spec_l07Over.j2]
          rw [if_pos trivial, if_pos (by omega), if_pos (by omega), if_pos (by omega), rdE st i hlt, next_ (n := st.length) hlt (by omega)]
        · rw [if_neg h1]
          have h1' : Op.bytesLess st[i].f0.toList x.toList = false := by simpa using h1
          rw [h1']
          by_cases h2 : st[i].f0.toList = x.toList
          · rw [if_pos h2]
            have h3 := over_tail st x v hl d (i + 1) (acc ++ [(⟨x, v⟩ : E)]) (by omega) (by rw [List.length_append]; simp; omega)
            rw [List.append_assoc] at h3
            have e := next_ (n := st.length) hlt (by omega)
            rw [← e] at h3
            refine Ev.step (f := fun k => spec_l07Over.j3 k st (wr x v) acc 0 (i : Int) true) (fun k => ?_) (fin i acc _ true _ (by omega) (.inl ⟨rfl, rfl⟩) h3)
            simp only [spec_l07Over.j2]
            rw [if_neg (by simp), if_pos (by omega), if_pos (by omega), if_pos (by omega), if_pos (by rw [hw]; omega), rdE st i hlt]
            show spec_l07Over.j3 k st (wr x v) acc 0 (i : Int) (st[i].f0.toList == x.toList) = _
            rw [beq_iff_eq.2 h2]
          · rw [if_neg h2]
            have h3 := over_tail st x v hl (d + 1) i (acc ++ [(⟨x, v⟩ : E)]) (by omega) (by rw [List.length_append]; simp; omega)
            rw [List.append_assoc, List.drop_eq_getElem_cons hlt] at h3
            refine Ev.step (f := fun k => spec_l07Over.j3 k st (wr x v) acc 0 (i : Int) false) (fun k => ?_) (fin i acc _ false _ (by omega) (.inr ⟨rfl, rfl⟩) h3)
            simp only [spec_l07Over.j2]
            rw [if_neg (by simp), if_pos (by omega), if_pos (by omega), if_pos (by omega), if_pos (by rw [hw]; omega), rdE st i hlt]
            show spec_l07Over.j3 k st (wr x v) acc 0 (i : Int) (st[i].f0.toList == x.toList) = _
            rw [beq_eq_false_iff_ne.2 h2]
  simpa using key st.length 0 [] (by omega) (by simp)
theorem put_len : ∀ (st : List E) (x v : ByteArray), (put st x v).length ≤ st.length + 1
  | [], x, v => by simp [put, impl_PlayHistory.put]
  | e :: r, x, v => by
    have h : (impl_PlayHistory.put r x v).length ≤ r.length + 1 := put_len r x v
    show (impl_PlayHistory.put (e :: r) x v).length ≤ _
    unfold impl_PlayHistory.put
    split
    · simp only [List.length_cons]
      omega
    · split <;> simp only [List.length_cons] <;> omega
def run (C : List Int) : List H → List ByteArray → List E → List ByteArray × List E
  | [], out, st => (out, st)
  | x :: xs, out, st => if x.f0 ∈ C then (if x.f1 = 1 then run C xs (out ++ [look st x.f2]) st else if x.f1 = 2 then run C xs out (put st x.f2 x.f3) else run C xs out st) else run C xs out st
theorem run_len (C : List Int) : ∀ (l : List H) (out : List ByteArray) (st : List E), (run C l out st).1.length ≤ out.length + l.length ∧ (run C l out st).2.length ≤ st.length + l.length
  | [], out, st => by simp [run]
  | x :: xs, out, st => by
    unfold run
    have a := run_len C xs (out ++ [look st x.f2]) st
    have b := run_len C xs out (put st x.f2 x.f3)
    have c := run_len C xs out st
    have p := put_len st x.f2 x.f3
    simp only [List.length_append, List.length_cons, List.length_nil] at *
    split
    · split
      · omega
      · split <;> omega
    · omega
theorem play_spec (l : List H) (C : List Int) (hl : l.length ≤ 60) (hC : C.length ≤ 6) : Ev (fun k => spec_l08Play.l0 k l C [] [] 0) (run C l [] []) := by
  have key : ∀ (d i : Nat) (out : List ByteArray) (st : List E), i + d = l.length → out.length ≤ i → st.length ≤ i → Ev (fun k => spec_l08Play.l0 k l C st out (i : Int)) (run C (l.drop i) out st) := by
    intro d
    induction d with
    | zero =>
      intro i out st hi ho hs
      rw [List.drop_eq_nil_of_le (by omega)]
      exact Ev.step (f := fun _ => some (out, st)) (fun k => by simp only [spec_l08Play.l0]; rw [if_neg (by omega)]) (Ev.now _)
    | succ d ih =>
      intro i out st hi ho hs
      have hlt : i < l.length := by omega
      rw [List.drop_eq_getElem_cons hlt, run]
      have nx := next_ (n := l.length) hlt (by omega)
      refine Ev.step (f := fun k => (spec_l03Has.f k C l[i].f0).bind fun t => if t = true then (if l[i].f1 = 1 then ((spec_l08Value.f k st l[i].f2).bind fun b => if out.length < 8796093022208 then spec_l08Play.l0 k l C st (out ++ [b.1]) ((i + 1 : Nat) : Int) else none) else if l[i].f1 = 2 then ((spec_l07Over.f k st (wr l[i].f2 l[i].f3)).bind fun t => spec_l08Play.l0 k l C t out ((i + 1 : Nat) : Int)) else spec_l08Play.l0 k l C st out ((i + 1 : Nat) : Int)) else spec_l08Play.l0 k l C st out ((i + 1 : Nat) : Int)) (fun k => ?_) (Ev.bind (has_spec C l[i].f0 (by omega)) ?_)
      · simp only [spec_l08Play.l0]
        rw [if_pos (by omega), if_pos (by omega), rdH l i hlt, nx]
        rfl
      · by_cases h1 : l[i].f0 ∈ C
        · rw [decide_eq_true h1, if_pos h1]
          refine Ev.congr (fun _ => if_pos rfl) ?_
          by_cases h2 : l[i].f1 = 1
          · rw [if_pos h2]
            obtain ⟨b, hb⟩ := value_spec st l[i].f2 (by omega)
            exact Ev.congr (fun _ => if_pos h2) (Ev.bind hb (Ev.congr (fun _ => if_pos (by omega)) (ih (i + 1) _ st (by omega) (by rw [List.length_append]; simp; omega) (by omega))))
          · rw [if_neg h2]
            by_cases h3 : l[i].f1 = 2
            · rw [if_pos h3]
              have := put_len st l[i].f2 l[i].f3
              exact Ev.congr (fun _ => (if_neg h2).trans (if_pos h3)) (Ev.bind (over_spec st l[i].f2 l[i].f3 (by omega)) (ih (i + 1) out _ (by omega) (by omega) (by omega)))
            · rw [if_neg h3]
              exact Ev.congr (fun _ => (if_neg h2).trans (if_neg h3)) (ih (i + 1) out st (by omega) (by omega) (by omega))
        · rw [decide_eq_false h1, if_neg h1]
          exact Ev.congr (fun _ => if_neg (by simp)) (ih (i + 1) out st (by omega) (by omega) (by omega))
  simpa using key l.length 0 [] [] (by omega) (by simp) (by simp)
theorem play_impl (C : List Int) (hC : C.length ≤ 6) : ∀ (l : List H) (out : List ByteArray) (st : List E), out.length + l.length ≤ 60 → Ev (fun k => impl_PlayHistory.go k C l out st) ((run C l out st).1, (run C l out st).2, 0)
  | [], out, st, _ => Ev.now _
  | x :: xs, out, st, hl => by
    rw [List.length_cons] at hl
    unfold run
    refine Ev.congr (fun k => by rw [impl_PlayHistory.go]) (Ev.bind (has_impl C x.f0 (by omega)) ?_)
    by_cases h1 : x.f0 ∈ C
    · rw [decide_eq_true h1, if_pos h1]
      refine Ev.congr (fun _ => if_pos rfl) ?_
      by_cases h2 : x.f1 = 1
      · rw [if_pos h2]
        exact Ev.congr (fun _ => (if_pos h2).trans (if_pos (by omega))) (play_impl C hC xs _ st (by rw [List.length_append]; simp; omega))
      · rw [if_neg h2]
        by_cases h3 : x.f1 = 2
        · rw [if_pos h3]
          exact Ev.congr (fun _ => (if_neg h2).trans (if_pos h3)) (play_impl C hC xs out _ (by omega))
        · rw [if_neg h3]
          exact Ev.congr (fun _ => (if_neg h2).trans (if_neg h3)) (play_impl C hC xs out st (by omega))
    · rw [decide_eq_false h1, if_neg h1]
      exact Ev.congr (fun _ => if_neg (by simp)) (play_impl C hC xs out st (by omega))
theorem comm_len (l : List H) : (comm l).length ≤ 6 := by
  have : (six.filter (CommP.one l)).length ≤ six.length := List.length_filter_le _ _
  simpa [comm, six] using this
def out (l : List H) : List ByteArray × List E × Int := if (l.length : Int) > 4096 then ([], [], 2) else if ok l = true then ((run (comm l) l [] []).1, (run (comm l) l [] []).2, 0) else ([], [], 1)
theorem spec_ev (l : List H) (hl : l.length ≤ 1048576) : Ev (fun k => spec_PlayHistory.f k l) (out l) := by
  unfold spec_PlayHistory.f out
  by_cases h1 : (l.length : Int) > 4096
  · rw [if_pos h1]
    exact Ev.congr (fun _ => if_pos h1) (Ev.now _)
  rw [if_neg h1]
  refine Ev.congr (fun _ => if_neg h1) (Ev.bind (ok_spec l hl) ?_)
  cases hok : ok l with
  | false => exact Ev.congr (fun _ => if_neg (by simp)) (Ev.now _)
  | true =>
    have hp : Ev (fun k => spec_l08Play.f k l) (run (comm l) l [] []) := by
      unfold spec_l08Play.f
      exact Ev.bind (comm_spec l (by omega)) (play_spec l (comm l) (ok_len hok) (comm_len l))
    exact Ev.congr (fun _ => if_pos rfl) (Ev.bind hp (Ev.now _))
theorem impl_ev (l : List H) (hl : l.length ≤ 1048576) : Ev (fun k => impl_PlayHistory.f k l) (out l) := by
  unfold impl_PlayHistory.f out impl_historyCode.f
  by_cases h1 : (l.length : Int) > 4096
  · simp only [if_pos h1, Option.bind_some]
    exact Ev.congr (fun _ => if_neg (by omega)) (Ev.now _)
  simp only [if_neg h1, ok_impl, Option.bind_some]
  cases hok : ok l with
  | false =>
    simp only [Bool.false_eq_true, if_false, Option.bind_some]
    exact Ev.congr (fun _ => if_neg (by omega)) (Ev.now _)
  | true =>
    simp only [if_true, Option.bind_some]
    have h := comm_impl l (by omega)
    rw [comm_is hok] at h
    exact Ev.bind h (play_impl (comm l) (comm_len l) l [] [] (by have := ok_len hok; simp; omega))
theorem out_len (l : List H) : (out l).1.length ≤ 60 ∧ (out l).2.1.length ≤ 60 := by
  unfold out
  split
  · simp
  · split
    · rename_i hok
      have := run_len (comm l) l [] []
      have := ok_len hok
      simp only [List.length_nil] at *
      omega
    · simp
end Go.Proofs.Ytopajfpfjfbjcaa.PlayP
