/- For all bases within the law's size the program's Horizon answers what the reference's answers, and the base is unchanged; no condition. -/
import Derived.Test.YtlhmcdafnlcioaaXOpenFnExactHorizon
import Derived.Test.YtlhmcdafnlcioaaBaseZ
namespace Go.Proofs.Ytlhmcdafnlcioaa.fnExactHorizon.Pure
set_option maxRecDepth 100000
open Go Go.RowKit Go.Proofs.Ytlhmcdafnlcioaa.XZ Go.Proofs.YtlhmcdafnlcioaaW.PrintWords Go.Proofs.YtlhmcdafnlcioaaW.PrintLast Go.Proofs.YtlhmcdafnlcioaaW.PrintMore Go.Proofs.Ytlhmcdafnlcioaa.Opn Go.Proofs.Ytlhmcdafnlcioaa.Aid Go.Proofs.Ytlhmcdafnlcioaa.Loops Go.Proofs.Ytlhmcdafnlcioaa.BaseZ
set_option linter.unusedVariables false

/-- The least Snap that is open. -/
def least (m : List X) (a : Int) : Int := m.foldl (fun a x => if x.f0 = true then mn a x.f1 else a) a
theorem least_ev (F : Nat → Int → Int → Option Int) (m : List X) (hm : m.length ≤ 1048576)
    (hF : ∀ k a i, F (k + 1) a i = if i < (m.length : Int) then (if 0 ≤ i then (if (rd_T112 m i).f0 = true then F k (mn a (rd_T112 m i).f1) (wrap64 (i + 1)) else F k a (wrap64 (i + 1))) else none) else some a) (a : Int) :
    Ev (fun k => F k a 0) (least m a) := by
  have key : ∀ (d i : Nat) (a : Int), i + d = m.length → Ev (fun k => F k a (i : Int)) (least (m.drop i) a) := by
    intro d
    induction d with
    | zero =>
      intro i a hi
      rw [List.drop_eq_nil_of_le (by omega)]
      exact Ev.step (f := fun _ => some a) (fun k => by rw [hF, if_neg (by omega)]) (Ev.now _)
    | succ d ih =>
      intro i a hi
      have hlt : i < m.length := by omega
      rw [List.drop_eq_getElem_cons hlt]
      show Ev (fun k => F k a (i : Int)) (least (m.drop (i + 1)) (if m[i].f0 = true then mn a m[i].f1 else a))
      refine Ev.step (fun k => ?_) (ih (i + 1) _ (by omega))
      rw [hF, if_pos (by omega), if_pos (by omega), rdX m i hlt, next_ (n := m.length) hlt (by omega)]
      by_cases h : m[i].f0 = true
      · rw [if_pos h, if_pos h]
      · rw [if_neg h, if_neg h]
  simpa using key m.length 0 a (by omega)
def out (t : Int) (l : List V) (m : List X) : Int × Int := if ok t l m = true then (least m t, 0) else (0, 1)
theorem spec_ev (t : Int) (l : List V) (m : List X) (hl : l.length ≤ 1048576) (hm : m.length ≤ 1048576) : Ev (fun k => spec_Horizon.f k t l m) (out t l m) := by
  unfold spec_Horizon.f out
  refine Ev.bind (ok_spec t l m hl hm) ?_
  cases ok t l m with
  | false => exact Ev.congr (fun _ => if_neg (by simp)) (Ev.now _)
  | true =>
    refine Ev.congr (fun _ => if_pos rfl) (Ev.bind ?_ (Ev.now _))
    exact least_ev (fun k a i => spec_l07Horizon.l0 k a i t l m) m hm (fun _ _ _ => rfl) t
theorem impl_ev (t : Int) (l : List V) (m : List X) (hl : l.length ≤ 1048576) (hm : m.length ≤ 1048576) : Ev (fun k => impl_Horizon.f k t l m) (out t l m) := by
  unfold impl_Horizon.f out
  simp only [ok_impl, Option.bind_some]
  cases ok t l m with
  | false => exact Ev.congr (fun _ => if_neg (by simp)) (Ev.now _)
  | true =>
    refine Ev.congr (fun _ => if_pos rfl) (Ev.bind ?_ (Ev.now _))
    exact least_ev (fun k a i => impl_Base_horizon.l0 k a m (m.length : Int) i) m hm (fun k a i => by
      simp only [impl_Base_horizon.l0]
      by_cases h1 : i < (m.length : Int)
      · by_cases h2 : 0 ≤ i
        · simp only [if_pos h1, if_pos h2]
        · simp only [if_pos h1, if_neg h2]
      · simp only [if_neg h1]) t
theorem FnExactHorizon : Pure := by
  intro b hd
  obtain ⟨t, l, m⟩ := b
  obtain ⟨_, hl, hm⟩ := hd
  have ll : l.length ≤ 9223372036854775807 := by simpa [maxLen] using hl.1
  have wl : ∀ x ∈ l, x.f0.size ≤ 9223372036854775807 ∧ x.f3.size ≤ 9223372036854775807 := fun x hx => by
    have h := hl.2 x hx
    exact ⟨by simpa [Wfstr, maxLen] using h.1, by simpa [Wfstr, maxLen] using h.2.2.2⟩
  have lm : m.length ≤ 9223372036854775807 := by simpa [maxLen] using hm.1
  have wm : ∀ x ∈ m, FitX x := fun x hx => by
    have h := (hm.2 x hx).2.2
    exact ⟨by simpa [maxLen] using h.1, fun y hy => ⟨by simpa [Wfstr, maxLen] using (h.2 y hy).1, by simpa [Wfstr, maxLen] using (h.2 y hy).2.1⟩⟩
  refine Ev.rounds ?_
  unfold laws_FnExactHorizon.f
  obtain ⟨r, h1, h3⟩ := base_size t l m ll wl lm wm
  refine Ev.bind h1 ?_
  by_cases hr : r < 0
  · exact Ev.congr (fun k => if_pos hr) (Ev.now _)
  refine Ev.congr (fun k => if_neg hr) ?_
  obtain ⟨s1, s2, s3⟩ := h3 (by omega)
  have c := base_copy t l m s1 s2 s3
  have e1 : (l.map convV).length ≤ 1048576 := by rw [List.length_map]; exact s1
  have e2 : (m.map convX).length ≤ 1048576 := by rw [List.length_map]; exact s2
  have e3 : ∀ x ∈ m.map convX, x.f2.length ≤ 1048576 := fun x hx => by
    obtain ⟨y, hy, rfl⟩ := List.mem_map.1 hx
    show (y.f2.map convW).length ≤ 1048576
    rw [List.length_map]
    exact s3 y hy
  generalize l.map convV = l' at c e1
  generalize m.map convX = m' at c e2 e3
  have hs := spec_ev t l' m' e1 e2
  have hi := impl_ev t l' m' e1 e2
  generalize out t l' m' = q at hs hi
  refine Ev.bind c (Ev.bind hs (Ev.bind c (Ev.bind hi (Ev.congr (fun _ => if_pos rfl) ?_))))
  refine Ev.step (fun k => laws_FnExactHorizon.j0.eq_2 ..) (Ev.congr (fun _ => if_neg (by simp)) (Ev.bind c (Ev.bind (base_same t l' m' e1 e2 e3) (Ev.congr (fun _ => if_pos rfl) (Ev.now _)))))

end Go.Proofs.Ytlhmcdafnlcioaa.fnExactHorizon.Pure
