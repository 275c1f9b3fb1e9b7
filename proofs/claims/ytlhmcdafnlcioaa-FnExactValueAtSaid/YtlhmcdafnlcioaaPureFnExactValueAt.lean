/- For all bases, times and keys within the law's size the program's ValueAt answers what the reference's answers, and the base is unchanged; no condition. -/
import Derived.Test.YtlhmcdafnlcioaaXOpenFnExactValueAt
import Derived.Test.YtlhmcdafnlcioaaBaseV
namespace Go.Proofs.Ytlhmcdafnlcioaa.fnExactValueAt.Pure
set_option maxRecDepth 100000
open Go Go.RowKit Go.Proofs.Ytlhmcdafnlcioaa.XV Go.Proofs.YtlhmcdafnlcioaaW.PrintWords Go.Proofs.YtlhmcdafnlcioaaW.PrintLast Go.Proofs.YtlhmcdafnlcioaaW.PrintMore Go.Proofs.Ytlhmcdafnlcioaa.Opn Go.Proofs.Ytlhmcdafnlcioaa.Aid Go.Proofs.Ytlhmcdafnlcioaa.Loops Go.Proofs.Ytlhmcdafnlcioaa.BaseV
set_option linter.unusedVariables false

/-- Is a version seen at a time? -/
def seen (t : Int) (v : V) : Bool := if v.f1 ≤ t then (if v.f2 = 0 then true else decide (t < v.f2)) else false
theorem seen_spec (t : Int) (v : V) : spec_l07Sees.f v.f0 v.f1 v.f2 v.f3 t = some (seen t v) := by
  unfold spec_l07Sees.f seen
  split
  · split <;> rfl
  · rfl
theorem seen_impl (t : Int) (v : V) : impl_Version_isSeen.f v.f0 v.f1 v.f2 v.f3 t = some (seen t v) := by
  unfold impl_Version_isSeen.f seen
  split
  · split <;> rfl
  · rfl
def pick (l : List V) (t : Int) (s : ByteArray) : ByteArray × Bool := match l.find? (fun v => decide (v.f0.toList = s.toList) && seen t v) with
  | some v => (v.f3, true)
  | none => (⟨#[]⟩, false)
theorem at_ev (b : Int) (l : List V) (m : List X) (t : Int) (s : ByteArray) (hl : l.length ≤ 1048576) : Ev (fun k => spec_l07At.f k b l m t s) (pick l t s) := by
  unfold spec_l07At.f
  have key : ∀ (d i : Nat), i + d = l.length → Ev (fun k => spec_l07At.l0 k t s (i : Int) b l m) (pick (l.drop i) t s) := by
    intro d
    induction d with
    | zero =>
      intro i hi
      rw [List.drop_eq_nil_of_le (by omega)]
      exact Ev.step (f := fun _ => some (⟨#[]⟩, false)) (fun k => by simp only [spec_l07At.l0]; rw [if_neg (by omega)]) (Ev.now _)
    | succ d ih =>
      intro i hi
      have hlt : i < l.length := by omega
      rw [List.drop_eq_getElem_cons hlt]
      unfold pick
      rw [List.find?_cons]
      by_cases h1 : l[i].f0.toList = s.toList
      · cases h2 : seen t l[i] with
        | true =>
          rw [decide_eq_true h1]
          refine Ev.step (f := fun _ => some (l[i].f3, true)) (fun k => ?_) (Ev.now _)
          simp only [spec_l07At.l0]
          rw [if_pos (by omega), if_pos (by omega), rdV l i hlt, if_pos h1, seen_spec, h2]
          rfl
        | false =>
          rw [decide_eq_true h1]
          refine Ev.step (fun k => ?_) (ih (i + 1) (by omega))
          simp only [spec_l07At.l0]
          rw [if_pos (by omega), if_pos (by omega), rdV l i hlt, if_pos h1, seen_spec, h2, next_ (n := l.length) hlt (by omega)]
          rfl
      · rw [decide_eq_false h1]
        refine Ev.step (fun k => ?_) (ih (i + 1) (by omega))
        simp only [spec_l07At.l0]
        rw [if_pos (by omega), if_pos (by omega), rdV l i hlt, if_neg h1, next_ (n := l.length) hlt (by omega)]
  simpa using key l.length 0 (by omega)
def entry (v : V) : S150 := ⟨v.f0, v.f3⟩
theorem list_ev (b : Int) (l : List V) (m : List X) (t : Int) (hl : l.length ≤ 4096) : Ev (fun k => impl_Base_list.f k b l m t) ((l.filter (seen t)).map entry) := by
  unfold impl_Base_list.f
  have key : ∀ (d i : Nat) (acc : List S150), i + d = l.length → acc.length ≤ i → Ev (fun k => impl_Base_list.l0 k t acc l (l.length : Int) (i : Int)) (acc ++ ((l.drop i).filter (seen t)).map entry) := by
    intro d
    induction d with
    | zero =>
      intro i acc hi ha
      rw [List.drop_eq_nil_of_le (by omega), List.filter_nil, List.map_nil, List.append_nil]
      exact Ev.step (f := fun _ => some acc) (fun k => by simp only [impl_Base_list.l0]; rw [if_neg (by omega)]) (Ev.now _)
    | succ d ih =>
      intro i acc hi ha
      have hlt : i < l.length := by omega
      rw [List.drop_eq_getElem_cons hlt, List.filter_cons]
      cases h2 : seen t l[i] with
      | true =>
        rw [if_pos rfl, List.map_cons]
        have := ih (i + 1) (acc ++ [entry l[i]]) (by omega) (by rw [List.length_append]; simp; omega)
        rw [List.append_assoc] at this
        refine Ev.step (fun k => ?_) this
        simp only [impl_Base_list.l0]
        rw [if_pos (by omega), if_pos (by omega), if_pos (by omega), rdV l i hlt, seen_impl, h2, next_ (n := l.length) hlt (by omega)]
        simp only [Option.bind_some, if_true]
        rw [if_pos (by omega)]
        rfl
      | false =>
        rw [if_neg (by simp)]
        refine Ev.step (fun k => ?_) (ih (i + 1) acc (by omega) (by omega))
        simp only [impl_Base_list.l0]
        rw [if_pos (by omega), if_pos (by omega), if_pos (by omega), rdV l i hlt, seen_impl, h2, next_ (n := l.length) hlt (by omega)]
        simp only [Option.bind_some, Bool.false_eq_true, if_false]
  simpa using key l.length 0 [] (by omega) (by simp)
def look (es : List S150) (s : ByteArray) : ByteArray × Bool := match es.find? (fun e => decide (e.f0.toList = s.toList)) with
  | some e => (e.f1, true)
  | none => (⟨#[]⟩, false)
theorem look_ev (es : List S150) (s : ByteArray) (hl : es.length ≤ 1048576) : Ev (fun k => impl_valueOf.f k es s) (look es s) := by
  unfold impl_valueOf.f
  have key : ∀ (d i : Nat), i + d = es.length → Ev (fun k => impl_valueOf.l0 k s es (es.length : Int) (i : Int)) (look (es.drop i) s) := by
    intro d
    induction d with
    | zero =>
      intro i hi
      rw [List.drop_eq_nil_of_le (by omega)]
      exact Ev.step (f := fun _ => some (⟨#[]⟩, false)) (fun k => by simp only [impl_valueOf.l0]; rw [if_neg (by omega)]) (Ev.now _)
    | succ d ih =>
      intro i hi
      have hlt : i < es.length := by omega
      have hrd : rd_T150 es (i : Int) = es[i] := by simp [rd_T150, List.getD_eq_getElem?_getD, List.getElem?_eq_getElem hlt]
      rw [List.drop_eq_getElem_cons hlt]
      unfold look
      rw [List.find?_cons]
      by_cases h1 : es[i].f0.toList = s.toList
      · rw [decide_eq_true h1]
        refine Ev.step (f := fun _ => some (es[i].f1, true)) (fun k => ?_) (Ev.now _)
        simp only [impl_valueOf.l0]
        rw [if_pos (by omega), if_pos (by omega), if_pos (by omega), hrd, if_pos h1]
      · rw [decide_eq_false h1]
        refine Ev.step (fun k => ?_) (ih (i + 1) (by omega))
        simp only [impl_valueOf.l0]
        rw [if_pos (by omega), if_pos (by omega), if_pos (by omega), hrd, if_neg h1, next_ (n := es.length) hlt (by omega)]
  simpa using key es.length 0 (by omega)
theorem look_is (l : List V) (t : Int) (s : ByteArray) : look ((l.filter (seen t)).map entry) s = pick l t s := by
  induction l with
  | nil => rfl
  | cons v l ih =>
    unfold pick at ih ⊢
    rw [List.filter_cons, List.find?_cons]
    cases h2 : seen t v with
    | false =>
      rw [if_neg (by simp), Bool.and_false]
      exact ih
    | true =>
      rw [if_pos rfl, List.map_cons, Bool.and_true]
      unfold look at ih ⊢
      rw [List.find?_cons]
      show (match (match decide (v.f0.toList = s.toList) with | true => some (entry v) | false => _) with | some e => (e.f1, true) | none => _) = _
      cases decide (v.f0.toList = s.toList) with
      | true => rfl
      | false => exact ih
def out (b : Int) (l : List V) (m : List X) (t : Int) (s : ByteArray) : ByteArray × Int :=
  if (s.size : Int) > 65536 then (⟨#[]⟩, 2) else if ok b l m = true then (if within t 0 b = true then (if (pick l t s).2 = true then ((pick l t s).1, 0) else (⟨#[]⟩, 5)) else (⟨#[]⟩, 4)) else (⟨#[]⟩, 1)
theorem spec_ev (b : Int) (l : List V) (m : List X) (t : Int) (s : ByteArray) (hl : l.length ≤ 1048576) (hm : m.length ≤ 1048576) : Ev (fun k => spec_ValueAt.f k b l m t s) (out b l m t s) := by
  unfold spec_ValueAt.f out
  by_cases h1 : (s.size : Int) > 65536
  · rw [if_pos h1]
    exact Ev.congr (fun _ => if_pos h1) (Ev.now _)
  rw [if_neg h1]
  refine Ev.congr (fun _ => if_neg h1) (Ev.bind (ok_spec b l m hl hm) ?_)
  cases ok b l m with
  | false => exact Ev.congr (fun _ => if_neg (by simp)) (Ev.now _)
  | true =>
    refine Ev.congr (fun _ => if_pos rfl) ?_
    simp only [in_spec, Option.bind_some]
    cases within t 0 b with
    | false => exact Ev.congr (fun _ => if_neg (by simp)) (Ev.now _)
    | true =>
      refine Ev.congr (fun _ => if_pos rfl) (Ev.bind (at_ev b l m t s hl) ?_)
      rw [if_pos rfl, if_pos trivial]
      generalize pick l t s = q
      refine Ev.congr (f := fun _ => some (if q.snd = true then (q.fst, (0 : Int)) else (⟨#[]⟩, 5))) (fun _ => ?_) (Ev.now _)
      split <;> rfl
theorem ok_short {b : Int} {l : List V} {m : List X} (h : ok b l m = true) : l.length ≤ 4096 := by
  unfold ok at h
  simp only [Bool.and_eq_true, decide_eq_true_eq] at h
  omega
theorem long_is (s : ByteArray) : impl_areLong.f [s] = some (decide ((s.size : Int) > 65536)) := by
  unfold impl_areLong.f
  simp
theorem impl_ev (b : Int) (l : List V) (m : List X) (t : Int) (s : ByteArray) (hl : l.length ≤ 1048576) (hm : m.length ≤ 1048576) : Ev (fun k => impl_ValueAt.f k b l m t s) (out b l m t s) := by
  unfold impl_ValueAt.f out
  simp only [long_is, Option.bind_some, decide_eq_true_eq]
  by_cases h1 : (s.size : Int) > 65536
  · rw [if_pos h1]
    exact Ev.congr (fun _ => if_pos h1) (Ev.now _)
  rw [if_neg h1]
  refine Ev.congr (fun _ => if_neg h1) ?_
  simp only [ok_impl, Option.bind_some]
  cases hok : ok b l m with
  | false => exact Ev.congr (fun _ => if_neg (by simp)) (Ev.now _)
  | true =>
    refine Ev.congr (fun _ => if_pos rfl) ?_
    simp only [in_impl, Option.bind_some]
    cases within t 0 b with
    | false => exact Ev.congr (fun _ => if_neg (by simp)) (Ev.now _)
    | true =>
      have h4 := ok_short hok
      refine Ev.congr (fun _ => if_pos rfl) (Ev.bind (list_ev b l m t h4) (Ev.bind (look_ev _ s (by rw [List.length_map]; have := List.length_filter_le (seen t) l; omega)) ?_))
      rw [if_pos rfl, if_pos trivial, look_is]
      generalize pick l t s = q
      refine Ev.congr (f := fun _ => some (if q.snd = true then (q.fst, (0 : Int)) else (⟨#[]⟩, 5))) (fun _ => ?_) (Ev.now _)
      split <;> rfl
theorem FnExactValueAt : Pure := by
  intro b a1 a2 hd h4 h5
  obtain ⟨t, l, m⟩ := b
  obtain ⟨_, hl, hm⟩ := hd
  have ll : l.length ≤ 9223372036854775807 := by simpa [maxLen] using hl.1
  have wl : ∀ x ∈ l, x.f0.size ≤ 9223372036854775807 ∧ x.f3.size ≤ 9223372036854775807 := fun x hx => by
    have h := hl.2 x hx
    exact ⟨by simpa [Wfstr, maxLen] using h.1, by simpa [Wfstr, maxLen] using h.2.2.2⟩
  have lm : m.length ≤ 9223372036854775807 := by simpa [maxLen] using hm.1
  have wm : ∀ x ∈ m, FitX x := fun x hx => by
    have h := (hm.2 x hx).2.2
    exact ⟨by simpa [maxLen] using h.1, fun y hy => ⟨by simpa [Wfstr, maxLen] using (h.2 y hy).1, by simpa [Wfstr, maxLen] using (h.2 y hy).2.1⟩⟩
  refine Ev.rounds ?_
  unfold laws_FnExactValueAt.f
  by_cases hb : (a2.size : Int) > 1048576
  · exact Ev.congr (fun _ => if_pos hb) (Ev.now _)
  refine Ev.congr (fun _ => if_neg hb) ?_
  obtain ⟨r, h1, h3⟩ := base_size t l m ll wl lm wm
  refine Ev.bind h1 ?_
  by_cases hr : r < 0
  · exact Ev.congr (fun k => if_pos hr) (Ev.now _)
  refine Ev.congr (fun k => if_neg hr) ?_
  obtain ⟨s1, s2, s3⟩ := h3 (by omega)
  have c := base_copy t l m s1 s2 s3
  have e1 : (l.map convV).length ≤ 1048576 := by rw [List.length_map]; exact s1
  have e2 : (m.map convX).length ≤ 1048576 := by rw [List.length_map]; exact s2
  have e3 : ∀ x ∈ m.map convX, x.f2.length ≤ 1048576 := fun x hx => by
    obtain ⟨y, hy, rfl⟩ := List.mem_map.1 hx
    show (y.f2.map convW).length ≤ 1048576
    rw [List.length_map]
    exact s3 y hy
  generalize l.map convV = l' at c e1
  generalize m.map convX = m' at c e2 e3
  have hs := spec_ev t l' m' a1 a2 e1 e2
  have hi := impl_ev t l' m' a1 a2 e1 e2
  generalize out t l' m' a1 a2 = q at hs hi
  refine Ev.bind c (Ev.bind hs (Ev.bind c (Ev.bind hi (Ev.congr (fun _ => if_pos rfl) ?_))))
  refine Ev.step (fun k => laws_FnExactValueAt.j0.eq_2 ..) (Ev.congr (fun _ => if_neg (by simp)) (Ev.bind c (Ev.bind (base_same t l' m' e1 e2 e3) (Ev.congr (fun _ => if_pos rfl) (Ev.now _)))))

end Go.Proofs.Ytlhmcdafnlcioaa.fnExactValueAt.Pure
