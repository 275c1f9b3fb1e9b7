/- For all forests and roots within the law's size the program's Reached answers what the reference's answers, both arguments are unchanged, and the answer is memory of its own; no condition. -/
import Derived.Test.YtcefdpjlpjgaiaaXOpenFnExactReached
import Derived.Test.YtcefdpjlpjgaiaaReachR
import Derived.Test.YtcefdpjlpjgaiaaMarkIR
namespace Go.Proofs.Ytcefdpjlpjgaiaa.fnExactReached.Pure
set_option maxRecDepth 100000
open Go Go.RowKit Go.Proofs.Ytcefdpjlpjgaiaa.XR Go.Proofs.YtcefdpjlpjgaiaaW.PrintWords Go.Proofs.YtcefdpjlpjgaiaaW.PrintLast Go.Proofs.YtcefdpjlpjgaiaaW.PrintMore Go.Proofs.Ytcefdpjlpjgaiaa.Opn Go.Proofs.Ytcefdpjlpjgaiaa.TreeR Go.Proofs.Ytcefdpjlpjgaiaa.Aid
set_option linter.unusedVariables false
set_option linter.unusedSimpArgs false

theorem mark_from (n : Nat) (s : Int) (h0 : 0 ≤ s) (hn : n ≤ 1048576) (hc : s ≤ 4611686018427387904) : ∀ (d i : Nat) (xs : List Int), i + d = n → xs.length = n → ∃ ys, Ev (fun k => laws_markIntS.l0 k xs (s + (i : Int)) (i : Int)) (s + (n : Int), ys) := by
  intro d
  induction d with
  | zero =>
    intro i xs hi hl
    refine ⟨xs, Ev.step (f := fun _ => some (s + (i : Int), xs)) (fun k => ?_) ?_⟩
    · simp only [laws_markIntS.l0]
      rw [if_neg (by omega)]
    · rw [show i = n by omega]
      exact Ev.now _
  | succ d ih =>
    intro i xs hi hl
    obtain ⟨ys, h⟩ := ih (i + 1) (xs.set i (s + (i : Int))) (by omega) (by rw [List.length_set]; exact hl)
    refine ⟨ys, Ev.step (fun k => ?_) h⟩
    simp only [laws_markIntS.l0]
    rw [if_pos (by omega), if_pos (by omega), wrap_id (x := s + (i : Int) + 1) (by omega) (by omega), wrap_id (x := (i : Int) + 1) (by omega) (by omega), Int.toNat_natCast]
    congr 1
    omega
theorem mark_any (xs : List Int) (s : Int) (h0 : 0 ≤ s) (hn : xs.length ≤ 1048576) (hc : s ≤ 4611686018427387904) : ∃ ys, Ev (fun k => laws_markIntS.f k xs s) (s + (xs.length : Int), ys) := by
  obtain ⟨ys, h⟩ := mark_from xs.length s h0 hn hc xs.length 0 xs (by omega) rfl
  simp only [Int.natCast_zero, Int.add_zero] at h
  exact ⟨ys, h⟩
theorem tot_le (f : Nat → Nat) (B : Nat) (hB : ∀ i, f i ≤ B) : ∀ n, laws_markForest.tot f n ≤ n * B
  | 0 => by simp [laws_markForest.tot]
  | n + 1 => by
    have := tot_le f B hB n
    have := hB n
    rw [laws_markForest.tot, Nat.succ_mul]
    omega
theorem forest_tot (m : List N) (hl : m.length ≤ 1048576) (hs : ∀ x ∈ m, Small x) : laws_markForest.tot (laws_markForest.F m) m.length ≤ 4000000000000 := by
  refine Nat.le_trans (tot_le _ 3145729 (fun i => ?_) m.length) (by omega)
  unfold laws_markForest.F
  by_cases hi : i < m.length
  · have h : Small (m.getD i z58) := by
      rw [List.getD_eq_getElem?_getD, List.getElem?_eq_getElem hi]
      exact hs _ (List.getElem_mem hi)
    obtain ⟨h1, h2, h3⟩ := h
    omega
  · rw [List.getD_eq_getElem?_getD, List.getElem?_eq_none (by omega)]
    simp [z58]
theorem forest_mark (m : List N) (hl : m.length ≤ 1048576) (hs : ∀ x ∈ m, Small x) : ∃ T : Int, 0 ≤ T ∧ T ≤ 4000000000001 ∧ Ev (fun k => laws_markForest.f k m 1) T := by
  have h := forest_tot m hl hs
  refine ⟨1 + ((laws_markForest.tot (laws_markForest.F m) m.length : Nat) : Int), by omega, by omega, ?_⟩
  unfold laws_markForest.f
  exact Ev.congr (fun _ => if_pos ⟨by omega, by omega, by omega⟩) (Ev.now _)
theorem FnExactReached : Pure := by
  intro b rs hd hrs
  obtain ⟨l⟩ := b
  obtain ⟨hl, hx⟩ := hd
  have ll : l.length ≤ 9223372036854775807 := by simpa [maxLen] using hl
  have wl : ∀ x ∈ l, FitN x := fun x h => by
    obtain ⟨_, h1, h2, h3⟩ := hx x h
    exact ⟨⟨by simpa [maxLen] using h1.1, fun y hy => by simpa [Wfstr, maxLen] using h1.2 y hy⟩, ⟨by simpa [maxLen] using h2.1, fun y hy => by simpa [Wfstr, maxLen] using h2.2 y hy⟩, by simpa [maxLen] using h3.1⟩
  refine Ev.rounds ?_
  unfold laws_FnExactReached.f
  by_cases hb : (rs.length : Int) > 1048576
  · exact Ev.congr (fun k => if_pos hb) (Ev.now _)
  refine Ev.congr (fun k => if_neg hb) ?_
  have hrl : rs.length ≤ 1048576 := by omega
  obtain ⟨r, h1, h3⟩ := forest_size l ll wl
  refine Ev.bind h1 ?_
  by_cases hr : r < 0
  · exact Ev.congr (fun k => if_pos hr) (Ev.now _)
  refine Ev.congr (fun k => if_neg hr) ?_
  obtain ⟨s1, s2⟩ := h3 (by omega)
  have c := forest_copy l s1 s2
  have e1 : (l.map conv).length ≤ 1048576 := by rw [List.length_map]; exact s1
  have e2 : ∀ x ∈ l.map conv, Small x := fun x hx => by
    obtain ⟨y, hy, rfl⟩ := List.mem_map.1 hx
    exact s2 y hy
  generalize l.map conv = m at c e1 e2
  have cr := ints_copy rs hrl
  obtain ⟨o, cd, ho, hs, hi⟩ := ReachR.both m e1 e2 rs hrl
  have hsame := ints_same o (by omega)
  have n1 : (cd != cd) = false := by simp
  obtain ⟨T, t0, t1, mf⟩ := forest_mark m e1 e2
  obtain ⟨ys, mi⟩ := mark_any rs T t0 hrl (by omega)
  have mg := MarkIR.ints_mark o 1 (by omega) (by omega)
  have hg := MarkIR.ints_held o.length 1 (by omega) (by omega)
  refine Ev.bind c (Ev.bind cr (Ev.bind hs (Ev.bind c (Ev.bind cr (Ev.bind hi (Ev.bind hsame (Ev.congr (fun _ => if_pos rfl) ?_)))))))
  simp only [n1]
  refine Ev.step (fun k => laws_FnExactReached.j0.eq_2 ..) (Ev.congr (fun _ => if_neg (by simp)) (Ev.bind c (Ev.bind (forest_same m e1 e2) (Ev.congr (fun _ => if_pos rfl) (Ev.bind cr (Ev.bind (ints_same rs hrl) (Ev.congr (fun _ => if_pos rfl) (Ev.bind mf (Ev.bind mi (Ev.congr (fun _ => if_neg (by first | omega | (simp only; omega))) (Ev.bind hsame (Ev.congr (fun _ => if_pos rfl) ?_))))))))))))
  simp only [n1]
  refine Ev.step (fun k => laws_FnExactReached.j1.eq_2 ..) (Ev.congr (fun _ => if_neg (by simp)) (Ev.bind mg (Ev.bind hg (Ev.congr (fun _ => if_neg (by first | omega | (simp only; omega))) (Ev.congr (fun _ => if_pos rfl) (Ev.bind c (Ev.bind cr (Ev.bind hi (Ev.bind hsame (Ev.congr (fun _ => if_pos rfl) ?_))))))))))
  simp only [n1]
  refine Ev.step (fun k => laws_FnExactReached.j2.eq_2 ..) (Ev.congr (fun _ => if_neg (by simp)) (Ev.bind hg (Ev.congr (fun _ => if_neg (by first | omega | (simp only; omega))) (Ev.congr (fun _ => if_pos rfl) (Ev.now _)))))

end Go.Proofs.Ytcefdpjlpjgaiaa.fnExactReached.Pure
