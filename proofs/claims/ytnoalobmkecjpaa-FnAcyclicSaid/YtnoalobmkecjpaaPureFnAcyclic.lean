/- For all codes: of the drawn graph the program's SerialOrder has each node once and no edge leads back in it, and it has none just where edges go round; no condition. -/
import Derived.Test.YtnoalobmkecjpaaXY6
import Derived.Test.YtnoalobmkecjpaaSerY
import Derived.Test.YtnoalobmkecjpaaSrcY
namespace Go.Proofs.Ytnoalobmkecjpaa.Pure
set_option maxRecDepth 100000
open Go Go.RowKit Go.Proofs.Ytnoalobmkecjpaa.XY Go.Proofs.YtnoalobmkecjpaaW.PrintWords Go.Proofs.YtnoalobmkecjpaaW.PrintLast Go.Proofs.YtnoalobmkecjpaaW.PrintMore Go.Proofs.Ytnoalobmkecjpaa.Aid Go.Proofs.Ytnoalobmkecjpaa.Loops Go.Proofs.Ytnoalobmkecjpaa.SerY Go.Proofs.Ytnoalobmkecjpaa.SrcY
set_option linter.unusedVariables false
set_option linter.unusedSimpArgs false

/-! The graph -/
theorem edges_drawn (l : List Int) (hl : ∀ x ∈ l, 0 ≤ x ∧ x < 256) (hn : l.length ≤ 140737488351232) (x5 : List Int) : ∀ (d : Nat) (x6 : List E) (a s m : Int), 0 ≤ a → a ≤ m → m + 2 * d ≤ 1000000 → 0 ≤ s → s < 2147483648 → x6.length + d ≤ 1000000 →
    ∃ es : List E, Ev (fun k => spec_DrawSerialOrder.l1 k x5 x6 (d : Int) l a s) (x5, es) ∧ es.length = x6.length + d := by
  intro d
  induction d with
  | zero =>
    intro x6 a s m h0 hm h1 h2 h3 hx
    exact ⟨x6, Ev.step (f := fun _ => some (x5, x6)) (fun k => by simp only [spec_DrawSerialOrder.l1]; rw [if_neg (by omega)]) (Ev.now _), by omega⟩
  | succ d ih =>
    intro x6 a s m h0 hm h1 h2 h3 hx
    obtain ⟨r, a1, s1, e1, r0, r1, y0, y1, y2, y3⟩ := next_ok l hl hn 8 a s m (by omega) (by omega) h0 hm (by omega) h2 h3
    obtain ⟨q, a2, s2, e2, q0, q1, z0, z1, z2, z3⟩ := next_ok l hl hn 8 a1 s1 (m + 1) (by omega) (by omega) y0 y1 (by omega) y2 y3
    obtain ⟨es, h, hlen⟩ := ih (x6 ++ [(⟨r, q⟩ : E)]) a2 s2 (m + 2) z0 (by omega) (by omega) z2 z3 (by rw [List.length_append, List.length_singleton]; omega)
    refine ⟨es, Ev.step (fun k => ?_) h, by rw [hlen, List.length_append, List.length_singleton]; omega⟩
    simp only [spec_DrawSerialOrder.l1]
    rw [if_pos (by omega), e1]
    simp only [Option.bind_some]
    rw [e2]
    simp only [Option.bind_some]
    rw [if_pos (by omega), wrap_id (by omega) (by omega), show ((d + 1 : Nat) : Int) - 1 = (d : Int) by omega]
theorem nodes_drawn (l : List Int) (hl : ∀ x ∈ l, 0 ≤ x ∧ x < 256) (hn : l.length ≤ 140737488351232) : ∀ (d : Nat) (x5 : List Int) (a s m : Int), 0 ≤ a → a ≤ m → m + 2 * d ≤ 1000 → 0 ≤ s → s < 2147483648 → x5.length + d ≤ 1000 →
    ∃ (ns : List Int) (es : List E), Ev (fun k => spec_DrawSerialOrder.l0 k x5 [] (d : Int) l a s) (ns, es) ∧ ns.length = x5.length + d ∧ es.length ≤ 7 := by
  intro d
  induction d with
  | zero =>
    intro x5 a s m h0 hm h1 h2 h3 hx
    obtain ⟨r, a1, s1, e1, r0, r1, y0, y1, y2, y3⟩ := next_ok l hl hn 8 a s m (by omega) (by omega) h0 hm (by omega) h2 h3
    obtain ⟨c, rfl⟩ : ∃ c : Nat, r = (c : Int) := ⟨r.toNat, by omega⟩
    obtain ⟨es, h, hlen⟩ := edges_drawn l hl hn x5 c [] a1 s1 (m + 1) y0 y1 (by omega) y2 y3 (by simp; omega)
    refine ⟨x5, es, Ev.step (fun k => ?_) h, by omega, by rw [hlen]; simp; omega⟩
    simp only [spec_DrawSerialOrder.l0]
    rw [if_neg (by omega), e1]
    simp only [Option.bind_some]
  | succ d ih =>
    intro x5 a s m h0 hm h1 h2 h3 hx
    obtain ⟨r, a1, s1, e1, r0, r1, y0, y1, y2, y3⟩ := next_ok l hl hn 9 a s m (by omega) (by omega) h0 hm (by omega) h2 h3
    obtain ⟨q, a2, s2, e2, q0, q1, z0, z1, z2, z3⟩ := next_ok l hl hn 9 a1 s1 (m + 1) (by omega) (by omega) y0 y1 (by omega) y2 y3
    obtain ⟨ns, es, h, hlen, hes⟩ := ih (x5 ++ [rd [((d + 1 : Nat) : Int), r] (wrap64 (Int.tdiv q 8))]) a2 s2 (m + 2) z0 (by omega) (by omega) z2 z3 (by rw [List.length_append, List.length_singleton]; omega)
    refine ⟨ns, es, Ev.step (fun k => ?_) h, by rw [hlen, List.length_append, List.length_singleton]; omega, hes⟩
    have hq : wrap64 (Int.tdiv q 8) = q / 8 := by rw [Int.tdiv_eq_ediv_of_nonneg q0, wrap_id (by omega) (by omega)]
    simp only [spec_DrawSerialOrder.l0]
    rw [if_pos (by omega), e1]
    simp only [Option.bind_some]
    rw [e2]
    simp only [Option.bind_some, List.length_cons, List.length_nil]
    rw [if_pos (by rw [hq]; omega), if_pos (by rw [hq]; omega), if_pos (by omega), wrap_id (x := ((d + 1 : Nat) : Int) - 1) (by omega) (by omega), show ((d + 1 : Nat) : Int) - 1 = (d : Int) by omega]
theorem graph (l : List Int) (hl : ∀ x ∈ l, 0 ≤ x ∧ x < 256) (hn : l.length ≤ 140737488351232) : ∃ (ns : List Int) (es : List E), Ev (fun k => spec_GraphOf.f k l) (ns, es) ∧ ns.length ≤ 6 ∧ es.length ≤ 7 := by
  unfold spec_GraphOf.f spec_DrawSerialOrder.f spec_l00Source.f
  obtain ⟨r, a1, s1, e1, r0, r1, y0, y1, y2, y3⟩ := next_ok l hl hn 7 0 ((l.length : Int) % 1000) 0 (by omega) (by omega) (by omega) (by omega) (by omega) (by omega) (by omega)
  obtain ⟨c, rfl⟩ : ∃ c : Nat, r = (c : Int) := ⟨r.toNat, by omega⟩
  obtain ⟨ns, es, h, hlen, hes⟩ := nodes_drawn l hl hn c [] a1 s1 1 y0 (by omega) (by omega) y2 y3 (by simp; omega)
  refine ⟨ns, es, Ev.bind (a := (ns, es)) (Ev.congr (fun k => ?_) h) (Ev.now _), by rw [hlen]; simp; omega, hes⟩
  simp only [Option.bind_some]
  rw [e1]
  simp only [Option.bind_some]
/-! Small functions of the laws -/
theorem has_law (l : List Int) (x : Int) (hl : l.length ≤ 1048576) : Ev (fun k => laws_hasInt.f k l x) (decide (x ∈ l)) := by
  unfold laws_hasInt.f
  have key : ∀ (d i : Nat), i + d = l.length → Ev (fun k => laws_hasInt.l0 k l x (i : Int)) (decide (x ∈ l.drop i)) := by
    intro d
    induction d with
    | zero =>
      intro i hi
      rw [List.drop_eq_nil_of_le (by omega)]
      exact Ev.step (f := fun _ => some _) (fun k => by simp only [laws_hasInt.l0]; rw [if_neg (by omega)]; simp) (Ev.now _)
    | succ d ih =>
      intro i hi
      have hlt : i < l.length := by omega
      rw [List.drop_eq_getElem_cons hlt]
      by_cases e : l[i] = x
      · have : decide (x ∈ l[i] :: l.drop (i + 1)) = true := decide_eq_true (by rw [e]; exact List.mem_cons_self)
        rw [this]
        exact Ev.step (f := fun _ => some _) (fun k => by simp only [laws_hasInt.l0]; rw [if_pos (by omega), if_pos (by omega), rdI l i hlt, if_pos e]) (Ev.now _)
      · have : decide (x ∈ l[i] :: l.drop (i + 1)) = decide (x ∈ l.drop (i + 1)) := decide_eq_decide.mpr (by rw [List.mem_cons]; exact or_iff_right (fun h => e h.symm))
        rw [this]
        refine Ev.step (fun k => ?_) (ih (i + 1) (by omega))
        simp only [laws_hasInt.l0]
        rw [if_pos (by omega), if_pos (by omega), rdI l i hlt, if_neg e, next_ (n := l.length) hlt (by omega)]
  exact key l.length 0 (by omega)
theorem place_law (l : List Int) (hn : l.Nodup) (hl : l.length ≤ 1048576) (i : Nat) (hi : i < l.length) : Ev (fun k => laws_place.f k l l[i]) (i : Int) := by
  unfold laws_place.f
  have key : ∀ (d j : Nat), j + d = i → Ev (fun k => laws_place.l0 k l l[i] (j : Int)) (i : Int) := by
    intro d
    induction d with
    | zero =>
      intro j hj
      obtain rfl : j = i := by omega
      exact Ev.step (f := fun _ => some _) (fun k => by simp only [laws_place.l0]; rw [if_pos (by omega), if_pos (by omega), rdI l j hi, if_pos rfl]) (Ev.now _)
    | succ d ih =>
      intro j hj
      refine Ev.step (fun k => ?_) (ih (j + 1) (by omega))
      simp only [laws_place.l0]
      rw [if_pos (by omega), if_pos (by omega), rdI l j (by omega), if_neg (fun e => by have := nodup_inj hn (by omega) hi e; omega), next_ (n := l.length) (by omega) (by omega)]
  exact key i 0 (by omega)
theorem same_law (xs : List Int) (hl : xs.length ≤ 1048576) : Ev (fun k => laws_sameInts.f k xs xs) true := by
  unfold laws_sameInts.f
  refine Ev.congr (fun k => if_pos rfl) ?_
  exact eqP (fun k i => laws_sameInts.l0 k xs xs i) xs.length xs.length (fun i => rd xs i = rd xs i) (by omega) rfl (fun _ => rfl) (fun _ _ => rfl)
/-! What an order is -/
def Stuck (es : List E) (S : List Int) : Prop := S ≠ [] ∧ ∀ x ∈ S, ∃ e ∈ es, e.f1 = x ∧ e.f0 ∈ S
theorem not_free {es : List E} {L : List Int} {x : Int} (h : free es L x = false) : ∃ e ∈ es, e.f1 = x ∧ e.f0 ∈ L := by
  unfold free impl_SerialOrder.q1 at h
  rw [Bool.not_eq_false', List.any_eq_true] at h
  obtain ⟨e, he, hq⟩ := h
  unfold impl_SerialOrder.q2 at hq
  rw [Bool.and_eq_true, beq_iff_eq, decide_eq_true_eq] at hq
  exact ⟨e, he, hq.1, hq.2⟩
theorem is_free {es : List E} {L : List Int} {x : Int} (h : free es L x = true) : ∀ e ∈ es, e.f1 = x → e.f0 ∉ L := by
  intro e he hx hm
  unfold free impl_SerialOrder.q1 at h
  rw [Bool.not_eq_true', List.any_eq_false] at h
  refine h e he ?_
  unfold impl_SerialOrder.q2
  rw [Bool.and_eq_true, beq_iff_eq, decide_eq_true_eq]
  exact ⟨hx, hm⟩
theorem go_is (es : List E) : ∀ (d : Nat) (S out : List Int), S.length = d →
    (∃ a, impl_SerialOrder.go es d S out = (out ++ a, 0) ∧ a.Perm S ∧ ∀ i (hi : i < a.length), ∀ e ∈ es, e.f1 = a[i] → e.f0 ∉ a.drop i) ∨ (impl_SerialOrder.go es d S out = ([], 15) ∧ ∃ S', (∀ x ∈ S', x ∈ S) ∧ Stuck es S') := by
  intro d
  induction d with
  | zero =>
    intro S out hd
    obtain rfl : S = [] := List.length_eq_zero_iff.1 hd
    exact .inl ⟨[], by rw [impl_SerialOrder.go_nil]; simp, List.Perm.refl _, fun i hi => absurd hi (by simp)⟩
  | succ d ih =>
    intro S out hd
    rw [impl_SerialOrder.go_step es d S out (by omega)]
    rcases first_is es S with ⟨e, hno⟩ | ⟨n, hn, e, hf, -⟩
    · rw [e, if_pos (by omega)]
      refine .inr ⟨rfl, S, fun x hx => hx, fun h => by rw [h] at hd; simp at hd, fun x hx => ?_⟩
      obtain ⟨i, hi, rfl⟩ := List.getElem_of_mem hx
      have := hno i hi
      rw [rdI S i hi] at this
      exact not_free this
    · rw [e, if_neg (by omega), Int.toNat_natCast]
      rcases ih (S.eraseIdx n) (out ++ [rd S (n : Int)]) (by rw [List.length_eraseIdx_of_lt hn]; omega) with ⟨a, h1, h2, h3⟩ | ⟨h1, S', h2, h3⟩
      · have hp : (S[n] :: a).Perm S := (h2.cons _).trans (cons_erase S n hn).symm
        refine .inl ⟨S[n] :: a, by rw [h1, rdI S n hn]; simp, hp, fun i hi => ?_⟩
        cases i with
        | zero =>
          intro e' he' hx hm
          rw [rdI S n hn] at hf
          exact is_free hf e' he' hx (hp.mem_iff.1 hm)
        | succ i =>
          intro e' he' hx
          exact h3 i (by simpa using hi) e' he' hx
      · exact .inr ⟨h1, S', fun x hx => (List.eraseIdx_sublist S n).subset (h2 x hx), h3⟩
/-! The law's own loops -/
theorem edges_right (ns a : List Int) (es : List E) (hn : ns.length ≤ 20) (he : es.length ≤ 400) (hp : a.Perm ns) (hd : ns.Nodup) (ho : ∀ i (hi : i < a.length), ∀ e ∈ es, e.f1 = a[i] → e.f0 ∉ a.drop i) : Ev (fun k => laws_FnAcyclic.l1 k ns es a 0) true := by
  have hda : a.Nodup := hp.nodup_iff.2 hd
  have hal : a.length ≤ 20 := by rw [hp.length_eq]; exact hn
  have key : ∀ (d i : Nat), i + d = es.length → Ev (fun k => laws_FnAcyclic.l1 k ns es a (i : Int)) true := by
    intro d
    induction d with
    | zero =>
      intro i hi
      exact Ev.step (f := fun _ => some true) (fun k => by simp only [laws_FnAcyclic.l1]; rw [if_neg (by omega)]) (Ev.now _)
    | succ d ih =>
      intro i hi
      have hlt : i < es.length := by omega
      have hnx : Ev (fun k => laws_FnAcyclic.l1 k ns es a (wrap64 ((i : Int) + 1))) true := by
        rw [next_ (n := es.length) hlt (by omega)]
        exact ih (i + 1) (by omega)
      refine Ev.step (f := fun k => (laws_hasInt.f k ns es[i].f0).bind fun t254 => (if t254 = true then ((laws_hasInt.f k ns es[i].f1).bind fun t256 => (if t256 = true then ((laws_place.f k a es[i].f0).bind fun t258 => ((laws_place.f k a es[i].f1).bind fun t260 => if t258 ≥ t260 then some false else laws_FnAcyclic.l1 k ns es a (wrap64 ((i : Int) + 1)))) else (laws_FnAcyclic.l1 k ns es a (wrap64 ((i : Int) + 1))))) else (laws_FnAcyclic.l1 k ns es a (wrap64 ((i : Int) + 1))))) (fun k => by simp only [laws_FnAcyclic.l1]; rw [if_pos (by omega), if_pos (by omega), rdE es i hlt]) ?_
      refine Ev.bind (has_law ns _ (by omega)) ?_
      by_cases m0 : es[i].f0 ∈ ns
      · refine Ev.congr (fun _ => if_pos (decide_eq_true m0)) (Ev.bind (has_law ns _ (by omega)) ?_)
        by_cases m1 : es[i].f1 ∈ ns
        · refine Ev.congr (fun _ => if_pos (decide_eq_true m1)) ?_
          obtain ⟨p, hp1, hp2⟩ := List.getElem_of_mem (hp.mem_iff.2 m0)
          obtain ⟨q, hq1, hq2⟩ := List.getElem_of_mem (hp.mem_iff.2 m1)
          rw [← hp2, ← hq2]
          refine Ev.bind (place_law a hda (by omega) p hp1) (Ev.bind (place_law a hda (by omega) q hq1) ?_)
          have hpq : p < q := by
            by_cases h : p < q
            · exact h
            · refine absurd ?_ (ho q hq1 es[i] (List.getElem_mem hlt) hq2.symm)
              rw [← hp2, List.mem_drop_iff_getElem]
              exact ⟨p - q, by omega, by congr 1; omega⟩
          exact Ev.congr (fun _ => if_neg (by omega)) hnx
        · exact Ev.congr (fun _ => if_neg (by simpa using m1)) hnx
      · exact Ev.congr (fun _ => if_neg (by simpa using m0)) hnx
  exact key es.length 0 (by omega)
theorem round_drop (ns : List Int) (es : List E) (left : List Int) (i m : Nat) (hi : i < ns.length) (hn : ns.length ≤ 20) (hm : m < left.length) (hl : left.length ≤ 20) (k : Nat) :
    laws_FnAcyclic.l4 (k + 1) ns es 15 left (i : Int) (m : Int) true (es.length : Int) = laws_FnAcyclic.l2 k ns es 15 (left.take m ++ left.drop (m + 1)) ((i + 1 : Nat) : Int) := by
  have hl1 : (left.take m).length ≤ 20 := by rw [List.length_take]; omega
  have hl2 : (left.drop (m + 1)).length ≤ 20 := by rw [List.length_drop]; omega
  have hwi := next_ (n := ns.length) hi (by omega)
  have hwm := next_ (n := left.length) hm (by omega)
  simp only [laws_FnAcyclic.l4]
  rw [if_neg (Int.lt_irrefl _), if_pos trivial]
  simp only [Option.bind_some, List.nil_append, List.length_nil, hwm, hwi, Int.toNat_natCast]
  rw [if_pos (by omega), if_pos (by omega), if_pos (by omega), if_pos (by omega), if_pos (by omega), if_pos (by omega)]
set_option maxHeartbeats 4000000 in
theorem stuck_round (ns : List Int) (es : List E) (S : List Int) (hn : ns.length ≤ 20) (he : es.length ≤ 400) (hS : Stuck es S) : ∀ (d i : Nat) (left : List Int), i + d = ns.length → left.length ≤ 20 → (∀ x ∈ S, x ∈ left) → Ev (fun k => laws_FnAcyclic.l2 k ns es 15 left (i : Int)) true := by
  intro d
  induction d with
  | zero =>
    intro i left hi hl hs
    refine Ev.step (f := fun _ => some true) (fun k => ?_) (Ev.now _)
    simp only [laws_FnAcyclic.l2]
    rw [if_neg (by omega), if_pos trivial]
    congr 1
    refine decide_eq_true ?_
    obtain ⟨x, hx⟩ := List.exists_mem_of_ne_nil _ hS.1
    have := List.length_pos_of_mem (hs x hx)
    omega
  | succ d ih =>
    intro i left hi hl hs
    have hlt : i < ns.length := by omega
    refine Ev.step (f := fun k => laws_FnAcyclic.l3 k ns es 15 left (i : Int) 0) (fun k => by simp only [laws_FnAcyclic.l2]; rw [if_pos (by omega)]) ?_
    have hwi := Aside0.mk (next_ (n := ns.length) hlt (by omega))
    have key : ∀ (c m : Nat), m + c = left.length → Ev (fun k => laws_FnAcyclic.l3 k ns es 15 left (i : Int) (m : Int)) true := by
      intro c
      induction c with
      | zero =>
        intro m hm
        exact Ev.step (fun k => by simp only [laws_FnAcyclic.l3]; rw [if_neg (by omega), hwi.out]) (ih (i + 1) left (by omega) hl hs)
      | succ c ihc =>
        intro m hm
        have hmt : m < left.length := by omega
        have hwm := Aside0.mk (next_ (n := left.length) hmt (by omega))
        refine Ev.step (f := fun k => laws_FnAcyclic.l4 k ns es 15 left (i : Int) (m : Int) true 0) (fun k => by simp only [laws_FnAcyclic.l3]; rw [if_pos (by omega)]) ?_
        have inner : ∀ (b j : Nat) (u : Bool), j + b = es.length → (u = true → ∀ e ∈ es.take j, ¬ (e.f1 = left[m] ∧ e.f0 ∈ left)) → Ev (fun k => laws_FnAcyclic.l4 k ns es 15 left (i : Int) (m : Int) u (j : Int)) true := by
          intro b
          induction b with
          | zero =>
            intro j u hj hu
            rw [List.take_of_length_le (by omega)] at hu
            cases u with
            | false =>
              refine Ev.step (fun k => ?_) (ihc (m + 1) (by omega))
              simp only [laws_FnAcyclic.l4]
              rw [if_neg (by omega), if_neg (by simp), hwm.out]
            | true =>
              have hno : left[m] ∉ S := fun hx => by
                obtain ⟨e, he1, he2, he3⟩ := hS.2 _ hx
                exact hu rfl e he1 ⟨he2, hs _ he3⟩
              have hlen : (left.take m ++ left.drop (m + 1)).length ≤ 20 := by simp; omega
              obtain rfl : j = es.length := by omega
              refine Ev.step (fun k => round_drop ns es left i m hlt hn hmt hl k) (ih (i + 1) (left.take m ++ left.drop (m + 1)) (by omega) hlen (fun x hx => ?_))
              have hm1 := (cons_erase left m hmt).mem_iff.1 (hs x hx)
              rcases List.mem_cons.1 hm1 with h | h
              · rw [h] at hx
                exact absurd hx hno
              · rwa [take_drop_erase hmt]
          | succ b ihb =>
            intro j u hj hu
            have hjt : j < es.length := by omega
            have hwj := Aside0.mk (next_ (n := es.length) hjt (by omega))
            cases u with
            | false =>
              refine Ev.step (fun k => ?_) (ihb (j + 1) false (by omega) (fun h => by cases h))
              simp only [laws_FnAcyclic.l4]
              rw [if_pos (by omega), if_neg (by simp), hwj.out]
            | true =>
              have hu' := hu rfl
              have htk : es.take (j + 1) = es.take j ++ [es[j]] := List.take_succ_eq_append_getElem hjt
              by_cases e : es[j].f1 = left[m]
              · refine Ev.step (f := fun k => (laws_hasInt.f k left es[j].f0).bind fun t270 => laws_FnAcyclic.l4 k ns es 15 left (i : Int) (m : Int) (!t270) ((j + 1 : Nat) : Int)) (fun k => ?_) ?_
                · simp only [laws_FnAcyclic.l4]
                  rw [if_pos (by omega), if_pos trivial, if_pos (by omega), if_pos (by omega), if_pos (by omega), rdE es j hjt, rdI left m hmt, if_pos e, hwj.out]
                · refine Ev.bind (has_law left _ (by omega)) (ihb (j + 1) _ (by omega) (fun h e' he' => ?_))
                  rw [htk] at he'
                  rcases List.mem_append.1 he' with h' | h'
                  · exact hu' e' h'
                  · obtain rfl : e' = es[j] := by simpa using h'
                    intro hh
                    rw [decide_eq_true hh.2] at h
                    cases h
              · refine Ev.step (fun k => ?_) (ihb (j + 1) true (by omega) (fun _ e' he' => ?_))
                · simp only [laws_FnAcyclic.l4]
                  rw [if_pos (by omega), if_pos trivial, if_pos (by omega), if_pos (by omega), if_pos (by omega), rdE es j hjt, rdI left m hmt, if_neg e, hwj.out]
                  rfl
                · rw [htk] at he'
                  rcases List.mem_append.1 he' with h' | h'
                  · exact hu' e' h'
                  · obtain rfl : e' = es[j] := by simpa using h'
                    exact fun hh => e hh.1
        exact inner es.length 0 true (by omega) (fun _ e' he' => by simp at he')
    exact key left.length 0 (by omega)
theorem FnAcyclic : laws_FnAcyclic.Pure := by
  intro l hm hn hw
  have hl : ∀ x ∈ l, 0 ≤ x ∧ x < 256 := fun x hx => by
    have := hw x hx
    simp [Lit.wf, IntKind.min, IntKind.max, IntKind.signed, IntKind.bits] at this
    omega
  refine Ev.rounds ?_
  unfold laws_FnAcyclic.f
  by_cases hbig : (l.length : Int) > 1048576
  · exact Ev.congr (fun k => if_pos hbig) (Ev.now _)
  refine Ev.congr (fun k => if_neg hbig) ?_
  obtain ⟨ns, es, hg, h1, h2⟩ := graph l hl (by omega)
  refine Ev.bind hg ?_
  have hi := impl_ev ns es (by omega)
  have hs := spec_ev ns es (by omega) (by omega)
  have hout : out ns es = if tw ns = true then ([], 9) else impl_SerialOrder.go es ns.length (sorted ns) [] := by
    unfold out
    rw [if_neg (by omega), if_neg (by omega)]
  rw [hout] at hi hs
  clear hout
  have key : ∀ (d i : Nat), i + d = ns.length → ((List.range ns.length).take i).any (fun i => decide (rd ns (i : Int) ∈ ns.take i)) = false → Ev (fun k => laws_FnAcyclic.l0 k ns es (i : Int)) true := by
    intro d
    induction d with
    | zero =>
      intro i hid hno
      obtain rfl : i = ns.length := by omega
      have ht : tw ns = false := by
        rw [List.take_of_length_le (by simp)] at hno
        exact hno
      have hd := tw_nodup ns ht
      rw [ht, if_neg (by simp)] at hi hs
      refine Ev.step (f := fun k => (impl_SerialOrder.f k ns es).bind fun bt244 => ((spec_SerialOrder.f k ns es).bind fun bt248 => (if bt244.2 = bt248.2 then ((laws_sameInts.f k bt244.1 bt248.1).bind fun t252 => (laws_FnAcyclic.j1 k ns es bt244.1 bt244.2 (!t252))) else (laws_FnAcyclic.j1 k ns es bt244.1 bt244.2 true)))) (fun k => by simp only [laws_FnAcyclic.l0]; rw [if_neg (by omega)]) ?_
      rcases go_is es ns.length (sorted ns) [] (sorted_perm ns).length_eq.symm with ⟨a, e, hp, ho⟩ | ⟨e, S, hS, hst⟩
      · rw [e, List.nil_append] at hi hs
        have hpn : a.Perm ns := hp.trans (sorted_perm ns).symm
        have hal : a.length = ns.length := hpn.length_eq
        refine Ev.bind hi (Ev.bind hs (Ev.congr (fun _ => if_pos rfl) (Ev.bind (same_law a (by omega)) ?_)))
        refine Ev.step (fun k => laws_FnAcyclic.j1.eq_2 ..) (Ev.congr (fun _ => (if_neg (by simp)).trans ((if_pos rfl).trans (if_pos (by simp only; omega)))) ?_)
        exact edges_right ns a es (by omega) (by omega) hpn hd ho
      · rw [e] at hi hs
        refine Ev.bind hi (Ev.bind hs (Ev.congr (fun _ => if_pos rfl) (Ev.bind (same_law [] (by simp)) ?_)))
        refine Ev.step (fun k => laws_FnAcyclic.j1.eq_2 ..) (Ev.congr (fun _ => (if_neg (by simp)).trans (if_neg (by simp))) ?_)
        simp only [Option.bind_some, List.nil_append, List.length_nil]
        refine Ev.congr (fun _ => if_pos (by omega)) ?_
        exact stuck_round ns es S (by omega) (by omega) hst ns.length 0 ns (by omega) (by omega) (fun x hx => (sorted_perm ns).mem_iff.2 (hS x hx))
    | succ d ih =>
      intro i hid hno
      have hlt : i < ns.length := by omega
      refine Ev.step (f := fun k => (laws_hasInt.f k (ns.take (i : Int).toNat) (rd ns (i : Int))).bind fun t239 => (if t239 = true then ((impl_SerialOrder.f k ns es).bind fun bt240 => (some (bt240.2 == 9))) else (laws_FnAcyclic.l0 k ns es (wrap64 ((i : Int) + 1))))) (fun k => by simp only [laws_FnAcyclic.l0]; rw [if_pos (by omega), if_pos (by omega), if_pos (by omega)]) ?_
      rw [Int.toNat_natCast, next_ (n := ns.length) hlt (by omega)]
      refine Ev.bind (has_law (ns.take i) _ (by rw [List.length_take]; omega)) ?_
      cases hdd : decide (rd ns (i : Int) ∈ ns.take i) with
      | true =>
        have ht : tw ns = true := by
          unfold tw
          rw [List.any_eq_true]
          exact ⟨i, by simpa using hlt, hdd⟩
        rw [ht, if_pos rfl] at hi
        exact Ev.congr (fun _ => if_pos rfl) (Ev.bind hi (Ev.now _))
      | false =>
        refine Ev.congr (fun _ => if_neg (by simp)) (ih (i + 1) (by omega) ?_)
        have : (List.range ns.length).take (i + 1) = (List.range ns.length).take i ++ [i] := by
          rw [List.take_succ_eq_append_getElem (by simpa using hlt)]
          simp
        rw [this, List.any_append, hno]
        simp [hdd]
  exact key ns.length 0 (by omega) (by simp)
end Go.Proofs.Ytnoalobmkecjpaa.Pure
