/- The free pages of a right space on both sides; plain lemmas. -/
import Derived.Test.YtahdokhgmanbpaaXE2
import Derived.Test.YtahdokhgmanbpaaXE3
import Derived.Test.YtahdokhgmanbpaaXE4
import Derived.Test.YtahdokhgmanbpaaXE5
import Derived.Test.YtahdokhgmanbpaaSpaE
namespace Go.Proofs.Ytahdokhgmanbpaa.FreeE
open Go Go.RowKit Go.Proofs.Ytahdokhgmanbpaa.XE Go.Proofs.YtahdokhgmanbpaaW.PrintWords Go.Proofs.YtahdokhgmanbpaaW.PrintLast Go.Proofs.YtahdokhgmanbpaaW.PrintMore Go.Proofs.Ytahdokhgmanbpaa.Aid Go.Proofs.Ytahdokhgmanbpaa.Loops Go.Proofs.Ytahdokhgmanbpaa.SpaE
set_option linter.unusedVariables false
set_option linter.unusedSimpArgs false

def pages (a : Int) : List Int := (List.range a.toNat).map fun (i : Nat) => (i : Int)
def free (a : Int) (l2 l4 : List Int) : List Int := (pages a).filter fun p => !decide (p ∈ l2) && !decide (p ∈ l4)
theorem has_spec (l : List Int) (x : Int) (hl : l.length ≤ 1048576) : Ev (fun k => spec_l03Has.f k l x) (decide (x ∈ l)) := by
  unfold spec_l03Has.f
  have key : ∀ (d i : Nat), i + d = l.length → Ev (fun k => spec_l03Has.l0 k l x (i : Int)) (decide (x ∈ l.drop i)) := by
    intro d
    induction d with
    | zero =>
      intro i hi
      rw [List.drop_eq_nil_of_le (by omega)]
      exact Ev.step (f := fun _ => some _) (fun k => by simp only [spec_l03Has.l0]; rw [if_neg (by omega)]; simp) (Ev.now _)
    | succ d ih =>
      intro i hi
      have hlt : i < l.length := by omega
      rw [List.drop_eq_getElem_cons hlt]
      by_cases e : l[i] = x
      · have : decide (x ∈ l[i] :: l.drop (i + 1)) = true := decide_eq_true (by rw [e]; exact List.mem_cons_self)
        rw [this]
        exact Ev.step (f := fun _ => some _) (fun k => by simp only [spec_l03Has.l0]; rw [if_pos (by omega), if_pos (by omega), rdI l i hlt, if_pos e]) (Ev.now _)
      · have : decide (x ∈ l[i] :: l.drop (i + 1)) = decide (x ∈ l.drop (i + 1)) := decide_eq_decide.mpr (by rw [List.mem_cons]; exact or_iff_right (fun h => e h.symm))
        rw [this]
        refine Ev.step (fun k => ?_) (ih (i + 1) (by omega))
        simp only [spec_l03Has.l0]
        rw [if_pos (by omega), if_pos (by omega), rdI l i hlt, if_neg e, next_ (n := l.length) hlt (by omega)]
  exact key l.length 0 (by omega)
theorem has_impl (l : List Int) (x : Int) (hl : l.length ≤ 1048576) : Ev (fun k => slices_Contains_int_int.f k l x) (decide (x ∈ l)) :=
  Ev.of (slices_Contains_int_int.mono l x) (impl_SpaceOK.has_some l x (by omega))
theorem held_impl (a b : Int) (l2 l4 : List Int) (l : List H) (hl : l.length ≤ 1048576) : Ev (fun k => impl_Space_heldPages.f k a b l2 l l4) (l.map (·.f0)) :=
  Ev.of (impl_Space_heldPages.mono a b l2 l l4) (impl_SpaceOK.held_some a b l2 l4 l (by omega))
theorem range_snoc (p : Int) (h : 0 ≤ p) : pages (p + 1) = pages p ++ [p] := by
  unfold pages
  rw [show (p + 1).toNat = p.toNat + 1 by omega, List.range_succ, List.map_append]
  simp
  omega
theorem free_snoc (p : Int) (h : 0 ≤ p) (l2 l4 : List Int) : free (p + 1) l2 l4 = free p l2 l4 ++ (if (!decide (p ∈ l2) && !decide (p ∈ l4)) = true then [p] else []) := by
  unfold free
  rw [range_snoc p h, List.filter_append, List.filter_cons, List.filter_nil]
theorem free_len (p : Int) (h : 0 ≤ p) (l2 l4 : List Int) : (free p l2 l4).length ≤ p.toNat := by
  unfold free
  refine Nat.le_trans (List.length_filter_le _ _) ?_
  simp [pages]
theorem impl_free (a b : Int) (l2 l4 : List Int) (l3 : List H) (h0 : 0 ≤ a) (h1 : a ≤ 64) (h2 : l2.length ≤ 1048576) (h3 : l3.length ≤ 1048576) : Ev (fun k => impl_Space_free.f k a b l2 l3 l4) (free a l2 (l3.map (·.f0))) := by
  unfold impl_Space_free.f
  refine Ev.bind (held_impl a b l2 l4 l3 h3) ?_
  have h4 : (l3.map (·.f0)).length ≤ 1048576 := by rw [List.length_map]; exact h3
  generalize l3.map (·.f0) = lh at h4
  have key : ∀ (d : Nat) (p : Int), p + d = a → 0 ≤ p → Ev (fun k => impl_Space_free.l0 k (free p l2 lh) lh a p a b l2 l3 l4) (free a l2 lh) := by
    intro d
    induction d with
    | zero =>
      intro p hp hp0
      obtain rfl : p = a := by omega
      exact Ev.step (f := fun _ => some _) (fun k => by simp only [impl_Space_free.l0]; rw [if_neg (by omega)]) (Ev.now _)
    | succ d ih =>
      intro p hp hp0
      have ih' := ih (p + 1) (by omega) (by omega)
      rw [free_snoc p hp0] at ih'
      have hw : wrap64 (p + 1) = p + 1 := wrap_id (by omega) (by omega)
      have hl := free_len p hp0 l2 lh
      refine Ev.step (f := fun k => (slices_Contains_int_int.f k l2 p).bind fun t193 => (if t193 = true then (impl_Space_free.l0 k (free p l2 lh) lh a (wrap64 (p + 1)) a b l2 l3 l4) else ((slices_Contains_int_int.f k lh p).bind fun t194 => (if t194 = true then (impl_Space_free.l0 k (free p l2 lh) lh a (wrap64 (p + 1)) a b l2 l3 l4) else (if (free p l2 lh).length < 17592186044416 then (impl_Space_free.l0 k (free p l2 lh ++ [p]) lh a (wrap64 (p + 1)) a b l2 l3 l4) else (none)))))) (fun k => by simp only [impl_Space_free.l0]; rw [if_pos (by omega)]) ?_
      refine Ev.bind (has_impl l2 p h2) ?_
      rw [hw]
      by_cases e : p ∈ l2
      · simp only [e, decide_true, Bool.not_true, Bool.false_and, Bool.false_eq_true, if_false, List.append_nil] at ih'
        exact Ev.congr (fun k => if_pos (decide_eq_true e)) ih'
      · refine Ev.congr (fun k => if_neg (by simpa using e)) (Ev.bind (has_impl lh p h4) ?_)
        by_cases e' : p ∈ lh
        · simp only [e, e', decide_true, decide_false, Bool.not_true, Bool.not_false, Bool.and_false, Bool.false_eq_true, if_false, List.append_nil] at ih'
          exact Ev.congr (fun k => if_pos (decide_eq_true e')) ih'
        · simp only [e, e', decide_false, Bool.not_false, Bool.and_self, if_true] at ih'
          exact Ev.congr (fun k => (if_neg (by simpa using e')).trans (if_pos (by omega))) ih'
  exact key a.toNat 0 (by omega) (by omega)
theorem spec_free (a b : Int) (l2 l4 : List Int) (l3 : List H) (h0 : 0 ≤ a) (h1 : a ≤ 64) (h2 : l2.length ≤ 1048576) (h3 : l3.length ≤ 1048576) : Ev (fun k => spec_l04Free.f k a b l2 l3 l4) (free a l2 (l3.map (·.f0))) := by
  unfold spec_l04Free.f
  have inner : ∀ (xs : List Int) (p : Int) (r : List Int) (d i : Nat) (u : Bool), i + d = l3.length →
      Ev (fun k => if (u || ((l3.drop i).any fun x => x.f0 == p)) = true then spec_l04Free.l0 k xs (wrap64 (p + 1)) a b l2 l3 l4 else (if xs.length < 17592186044416 then spec_l04Free.l0 k (xs ++ [p]) (wrap64 (p + 1)) a b l2 l3 l4 else none)) r →
      Ev (fun k => spec_l04Free.l1 k xs p u (i : Int) a b l2 l3 l4) r := by
    intro xs p r d
    induction d with
    | zero =>
      intro i u hi hr
      rw [List.drop_eq_nil_of_le (by omega)] at hr
      simp only [List.any_nil, Bool.or_false] at hr
      refine Ev.step (fun k => ?_) hr
      simp only [spec_l04Free.l1]
      rw [if_neg (by omega)]
    | succ d ih =>
      intro i u hi hr
      have hlt : i < l3.length := by omega
      rw [List.drop_eq_getElem_cons hlt, List.any_cons] at hr
      cases u with
      | true =>
        refine Ev.step (fun k => ?_) (ih (i + 1) true (by omega) (by simpa using hr))
        simp only [spec_l04Free.l1]
        rw [if_pos (by omega), if_pos trivial, next_ (n := l3.length) hlt (by omega)]
      | false =>
        refine Ev.step (fun k => ?_) (ih (i + 1) (l3[i].f0 == p) (by omega) (by simpa using hr))
        simp only [spec_l04Free.l1]
        rw [if_pos (by omega), if_neg (by simp), if_pos (by omega), rdH l3 i hlt, next_ (n := l3.length) hlt (by omega)]
  have hmem : ∀ p : Int, (l3.any fun x => x.f0 == p) = decide (p ∈ l3.map (·.f0)) := fun p => by
    rw [Bool.eq_iff_iff, List.any_eq_true, decide_eq_true_eq, List.mem_map]
    simp
  have key : ∀ (d : Nat) (p : Int), p + d = a → 0 ≤ p → Ev (fun k => spec_l04Free.l0 k (free p l2 (l3.map (·.f0))) p a b l2 l3 l4) (free a l2 (l3.map (·.f0))) := by
    intro d
    induction d with
    | zero =>
      intro p hp hp0
      obtain rfl : p = a := by omega
      exact Ev.step (f := fun _ => some _) (fun k => by simp only [spec_l04Free.l0]; rw [if_neg (by omega)]) (Ev.now _)
    | succ d ih =>
      intro p hp hp0
      have ih' := ih (p + 1) (by omega) (by omega)
      rw [free_snoc p hp0] at ih'
      have hw : wrap64 (p + 1) = p + 1 := wrap_id (by omega) (by omega)
      have hl := free_len p hp0 l2 (l3.map (·.f0))
      refine Ev.step (f := fun k => (spec_l03Has.f k l2 p).bind fun t => spec_l04Free.l1 k (free p l2 (l3.map (·.f0))) p t 0 a b l2 l3 l4) (fun k => by simp only [spec_l04Free.l0]; rw [if_pos (by omega)]) ?_
      refine Ev.bind (has_spec l2 p h2) (inner _ p _ l3.length 0 _ (by omega) ?_)
      rw [List.drop_zero, hmem p, hw]
      by_cases e : p ∈ l2
      · simp only [e, decide_true, Bool.not_true, Bool.false_and, Bool.false_eq_true, if_false, List.append_nil] at ih'
        exact Ev.congr (fun k => if_pos (by simp [e])) ih'
      · by_cases e' : p ∈ l3.map (·.f0)
        · simp only [e, e', decide_true, decide_false, Bool.not_true, Bool.not_false, Bool.and_false, Bool.false_eq_true, if_false, List.append_nil] at ih'
          exact Ev.congr (fun k => if_pos (by rw [decide_eq_true e']; simp)) ih'
        · simp only [e, e', decide_false, Bool.not_false, Bool.and_self, if_true] at ih'
          exact Ev.congr (fun k => (if_neg (by rw [decide_eq_false e, decide_eq_false e']; simp)).trans (if_pos (by omega))) ih'
  exact key a.toNat 0 (by omega) (by omega)
end Go.Proofs.Ytahdokhgmanbpaa.FreeE
