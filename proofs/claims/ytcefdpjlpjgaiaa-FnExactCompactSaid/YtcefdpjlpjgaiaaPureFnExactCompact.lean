/- For all forests and roots within the law's size the program's Compact answers what the reference's answers, both arguments are unchanged, and the answer is memory of its own; no condition. -/
import Derived.Test.YtcefdpjlpjgaiaaXOpenFnExactCompact
import Derived.Test.YtcefdpjlpjgaiaaCompK
import Derived.Test.YtcefdpjlpjgaiaaHeldK
namespace Go.Proofs.Ytcefdpjlpjgaiaa.fnExactCompact.Pure
set_option maxRecDepth 100000
open Go Go.RowKit Go.Proofs.Ytcefdpjlpjgaiaa.XK Go.Proofs.YtcefdpjlpjgaiaaW.PrintWords Go.Proofs.YtcefdpjlpjgaiaaW.PrintLast Go.Proofs.YtcefdpjlpjgaiaaW.PrintMore Go.Proofs.Ytcefdpjlpjgaiaa.Opn Go.Proofs.Ytcefdpjlpjgaiaa.TreeK Go.Proofs.Ytcefdpjlpjgaiaa.ReachK Go.Proofs.Ytcefdpjlpjgaiaa.CompK Go.Proofs.Ytcefdpjlpjgaiaa.HeldK Go.Proofs.Ytcefdpjlpjgaiaa.Aid
set_option linter.unusedVariables false
set_option linter.unusedSimpArgs false

theorem tot_le (f : Nat → Nat) (B : Nat) (hB : ∀ i, f i ≤ B) : ∀ n, laws_markForest.tot f n ≤ n * B
  | 0 => by simp [laws_markForest.tot]
  | n + 1 => by
    have := tot_le f B hB n
    have := hB n
    rw [laws_markForest.tot, Nat.succ_mul]
    omega
theorem forest_tot (m : List N) (hl : m.length ≤ 1048576) (hs : ∀ x ∈ m, Small x) : laws_markForest.tot (laws_markForest.F m) m.length ≤ 4000000000000 := by
  refine Nat.le_trans (tot_le _ 3145729 (fun i => ?_) m.length) (by omega)
  unfold laws_markForest.F
  by_cases hi : i < m.length
  · have h : Small (m.getD i z58) := by
      rw [List.getD_eq_getElem?_getD, List.getElem?_eq_getElem hi]
      exact hs _ (List.getElem_mem hi)
    obtain ⟨h1, h2, h3⟩ := h
    omega
  · rw [List.getD_eq_getElem?_getD, List.getElem?_eq_none (by omega)]
    simp [z58]
theorem forest_mark (m : List N) (hl : m.length ≤ 1048576) (hs : ∀ x ∈ m, Small x) : ∃ T : Int, 0 ≤ T ∧ T ≤ 4000000000001 ∧ Ev (fun k => laws_markForest.f k m 1) T := by
  have h := forest_tot m hl hs
  refine ⟨1 + ((laws_markForest.tot (laws_markForest.F m) m.length : Nat) : Int), by omega, by omega, ?_⟩
  unfold laws_markForest.f
  exact Ev.congr (fun _ => if_pos ⟨by omega, by omega, by omega⟩) (Ev.now _)
/-- Both sides answer alike. -/
theorem answer (m : List N) (hl : m.length ≤ 1048576) (hs : ∀ x ∈ m, Small x) (rs : List Int) (hrl : rs.length ≤ 1048576) :
    ∃ (ns : List N) (ids : List Int) (c : Int), ns.length ≤ 1000 ∧ (∀ x ∈ ns, Small x) ∧ ids.length ≤ 1048576 ∧ Ev (fun k => spec_Compact.f k m rs) (ns, ids, c) ∧ Ev (fun k => impl_Compact.f k m rs) (ns, ids, c) := by
  rcases ReachK.both m hl hs rs hrl with ⟨h1, hi⟩ | ⟨c, hc, h1, hsp, hi⟩ | ⟨B, b1, b2, b3, hf, hr, hB, h1, hsp, hi, hm, hre⟩
  · refine ⟨[], [], 2, by simp, fun x hx => by simp at hx, by simp, ?_, ?_⟩
    · unfold spec_Compact.f
      exact Ev.congr (fun _ => if_pos h1) (Ev.now _)
    · unfold impl_Compact.f
      exact Ev.bind hi (Ev.congr (fun _ => if_neg (by decide)) (Ev.now _))
  · refine ⟨[], [], c, by simp, fun x hx => by simp at hx, by simp, ?_, ?_⟩
    · unfold spec_Compact.f
      exact Ev.congr (fun _ => if_neg h1) (Ev.bind hsp (Ev.congr (fun _ => if_neg hc) (Ev.now _)))
    · unfold impl_Compact.f
      exact Ev.bind hi (Ev.congr (fun _ => if_neg hc) (Ev.now _))
  · have M := marks_of b1 b2 hf hr hB
    have hk := told_len B m.length
    have hns : ∀ x ∈ (told B m.length).map (nodeOf m B), Small x := fun x hx => by
      obtain ⟨i, hi, rfl⟩ := List.mem_map.1 hx
      have hb := told_bound B _ i hi
      have hsm : Small (m.getD i.toNat z58) := by
        rw [List.getD_eq_getElem?_getD, List.getElem?_eq_getElem (by omega)]
        exact hs _ (List.getElem_mem (by omega))
      exact ⟨hsm.1, hsm.2.1, by show ((m.getD i.toNat z58).f3.map (pos B)).length ≤ _; rw [List.length_map]; exact hsm.2.2⟩
    have hnl : ((told B m.length).map (nodeOf m B)).length ≤ 1000 := by rw [List.length_map]; omega
    refine ⟨(told B m.length).map (nodeOf m B), rs.map (idOf B), 0, hnl, hns, by rw [List.length_map]; exact hrl, ?_, ?_⟩
    · unfold spec_Compact.f
      refine Ev.congr (fun _ => if_neg h1) (Ev.bind hsp (Ev.congr (fun _ => if_pos rfl) ?_))
      exact Ev.bind (spec_side M hs b3 hm) (Ev.bind (own_ev ((told B m.length).map (nodeOf m B)) (Nat.le_trans hnl (by decide)) hns) (Ev.now _))
    · unfold impl_Compact.f
      exact Ev.bind hi (Ev.congr (fun _ => if_pos rfl) (Ev.bind (impl_side M hs b3 hre) (Ev.now _)))
theorem FnExactCompact : Pure := by
  intro b rs hd hrs
  obtain ⟨l⟩ := b
  obtain ⟨hl, hx⟩ := hd
  have ll : l.length ≤ 9223372036854775807 := by simpa [maxLen] using hl
  have wl : ∀ x ∈ l, FitN x := fun x h => by
    obtain ⟨_, h1, h2, h3⟩ := hx x h
    exact ⟨⟨by simpa [maxLen] using h1.1, fun y hy => by simpa [Wfstr, maxLen] using h1.2 y hy⟩, ⟨by simpa [maxLen] using h2.1, fun y hy => by simpa [Wfstr, maxLen] using h2.2 y hy⟩, by simpa [maxLen] using h3.1⟩
  have fin : ∀ k, laws_FnExactCompact.Fit k l rs → laws_FnExactCompact.f k l rs = some true := fun k h => by
    unfold laws_FnExactCompact.f
    rw [if_pos h]
  by_cases hb : (1048576 : Int) < (rs.length : Int)
  · exact ⟨0, fin 0 (.inl hb)⟩
  have hrl : rs.length ≤ 1048576 := by omega
  obtain ⟨r, ⟨K1, h1⟩, h3⟩ := forest_size l ll wl
  by_cases hr : r < 0
  · exact ⟨K1, fin K1 (.inr ⟨hb, r, h1 K1 (Nat.le_refl _), .inl hr⟩)⟩
  obtain ⟨s1, s2⟩ := h3 (by omega)
  have e1 : (l.map conv).length ≤ 1048576 := by rw [List.length_map]; exact s1
  have e2 : ∀ x ∈ l.map conv, Small x := fun x hx => by
    obtain ⟨y, hy, rfl⟩ := List.mem_map.1 hx
    exact s2 y hy
  obtain ⟨K2, c2⟩ := forest_copy l s1 s2
  obtain ⟨K3, c3⟩ := ints_copy rs hrl
  obtain ⟨ns, ids, c, n1, n2, n3, ⟨K4, c4⟩, ⟨K5, c5⟩⟩ := answer (l.map conv) e1 e2 rs hrl
  obtain ⟨K6, c6⟩ := forest_same ns (by omega) n2
  obtain ⟨K7, c7⟩ := ints_same ids n3
  obtain ⟨K8, c8⟩ := forest_same (l.map conv) e1 e2
  obtain ⟨K9, c9⟩ := ints_same rs hrl
  obtain ⟨T, t0, t1, ⟨K10, c10⟩⟩ := forest_mark (l.map conv) e1 e2
  have ht := forest_tot ns (by omega) n2
  have ha : MX.at_ 1 ns ns.length ≤ 4000000000001 := by unfold MX.at_; omega
  have ha0 := HeldK.at_pos 1 ns ns.length (by decide)
  obtain ⟨K11, c11⟩ := forest_held 1 ns (by decide) (by omega) n2 (by omega)
  obtain ⟨K12, c12⟩ := HeldK.ints_ev (MX.at_ 1 ns ns.length) ids.length ha0 (by omega) n3
  refine ⟨K1 + K2 + K3 + K4 + K5 + K6 + K7 + K8 + K9 + K10 + K11 + K12, fin _ (.inr ⟨hb, r, h1 _ (by omega), .inr ⟨by omega, l.map conv, rs, ns, ids, c, ns, ids, T, ?_⟩⟩)⟩
  exact ⟨c2 _ (by omega), c3 _ (by omega), c4 _ (by omega), c5 _ (by omega), c6 _ (by omega), c7 _ (by omega), c8 _ (by omega), c9 _ (by omega), c10 _ (by omega), t0, by omega, by omega, by omega, c11 _ (by omega), c12 _ (by omega)⟩
end Go.Proofs.Ytcefdpjlpjgaiaa.fnExactCompact.Pure
