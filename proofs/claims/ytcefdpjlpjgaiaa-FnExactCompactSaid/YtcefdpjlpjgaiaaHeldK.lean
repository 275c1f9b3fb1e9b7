/- A forest copied, and marks that are read back; plain lemmas. -/
import Derived.Test.YtcefdpjlpjgaiaaTreeK
import Derived.Test.YtcefdpjlpjgaiaaMarkXK
import Derived.Test.YtcefdpjlpjgaiaaReachK
import Derived.Test.YtcefdpjlpjgaiaaXKHLawCompact
namespace Go.Proofs.Ytcefdpjlpjgaiaa.HeldK
open Go Go.RowKit Go.Proofs.Ytcefdpjlpjgaiaa.XK Go.Proofs.YtcefdpjlpjgaiaaW.PrintWords Go.Proofs.YtcefdpjlpjgaiaaW.PrintLast Go.Proofs.YtcefdpjlpjgaiaaW.PrintMore Go.Proofs.Ytcefdpjlpjgaiaa.Aid Go.Proofs.Ytcefdpjlpjgaiaa.Loops Go.Proofs.Ytcefdpjlpjgaiaa.Xtra Go.Proofs.Ytcefdpjlpjgaiaa.TreeK Go.Proofs.Ytcefdpjlpjgaiaa.ReachK
set_option linter.unusedVariables false
set_option linter.unusedSimpArgs false

theorem own_ev (m : List N) (hl : m.length ≤ 1048576) (hs : ∀ x ∈ m, Small x) : Ev (fun k => spec_l05Own.f k m) m := by
  unfold spec_l05Own.f
  exact Ev.congr (fun _ => if_pos ⟨by omega, fun x hx => by obtain ⟨h1, h2, h3⟩ := hs x hx; omega⟩) (Ev.now _)
theorem text_ev (a : Int) (h : a ≤ 4611686018427387904) : Ev (fun k => laws_markText.f k a) (MX.mt a) := Ev.of (fun k => laws_markText.mono a k) (MX.mt_is a h)
theorem strs_get (t : Int) (n i : Nat) (h : i < n) : rdOf ByteArray.empty (MX.strs t n) (i : Int) = MX.mt (t + (i : Int)) := by
  unfold rdOf MX.strs
  rw [Int.toNat_natCast, List.getD_eq_getElem?_getD, List.getElem?_map, List.getElem?_range h]
  rfl
theorem ints_get (t : Int) (n i : Nat) (h : i < n) : rd (MX.ints t n) (i : Int) = t + (i : Int) := by
  unfold rd MX.ints
  rw [Int.toNat_natCast, List.getD_eq_getElem?_getD, List.getElem?_map, List.getElem?_range h]
  rfl
theorem strs_from (t : Int) (n : Nat) (h0 : 0 ≤ t) (h1 : t + (n : Int) ≤ 4611686018427387904) (hn : n ≤ 1048576) : ∀ (d i : Nat), i + d = n → Ev (fun k => laws_heldStringS.l0 k (MX.strs t n) (t + (i : Int)) (i : Int)) (t + (n : Int)) := by
  intro d
  induction d with
  | zero =>
    intro i hi
    obtain rfl : i = n := by omega
    exact Ev.step (f := fun _ => some _) (fun k => by rw [laws_heldStringS.l0.eq_2, if_neg (by rw [MX.strs_len]; omega)]) (Ev.now _)
  | succ d ih =>
    intro i hi
    refine Ev.step (f := fun k => (laws_markText.f k (t + (i : Int))).bind fun t286 => (if (rdOf ByteArray.empty (MX.strs t n) (i : Int)).toList = t286.toList then (laws_heldStringS.l0 k (MX.strs t n) (wrap64 (t + (i : Int) + 1)) (wrap64 ((i : Int) + 1))) else (some (-1)))) (fun k => ?_) ?_
    · rw [laws_heldStringS.l0.eq_2, if_pos (by rw [MX.strs_len]; omega), if_pos (by omega)]
    · refine Ev.bind (text_ev _ (by omega)) ?_
      rw [strs_get t n i (by omega), wrap_id (x := t + (i : Int) + 1) (by omega) (by omega), next_ (n := n) (by omega) (by omega)]
      refine Ev.congr (fun _ => if_pos rfl) ?_
      have := ih (i + 1) (by omega)
      rw [show t + ((i + 1 : Nat) : Int) = t + (i : Int) + 1 by omega] at this
      exact this
theorem strs_ev (t : Int) (n : Nat) (h0 : 0 ≤ t) (h1 : t + (n : Int) ≤ 4611686018427387904) (hn : n ≤ 1048576) : Ev (fun k => laws_heldStringS.f k (MX.strs t n) t) (t + (n : Int)) := by
  have h := strs_from t n h0 h1 hn n 0 (by omega)
  simp only [Int.natCast_zero, Int.add_zero] at h
  exact h
theorem ints_from (t : Int) (n : Nat) (h0 : 0 ≤ t) (h1 : t + (n : Int) ≤ 4611686018427387904) (hn : n ≤ 1048576) : ∀ (d i : Nat), i + d = n → Ev (fun k => laws_heldIntS.l0 k (MX.ints t n) (t + (i : Int)) (i : Int)) (t + (n : Int)) := by
  intro d
  induction d with
  | zero =>
    intro i hi
    obtain rfl : i = n := by omega
    exact Ev.step (f := fun _ => some _) (fun k => by rw [laws_heldIntS.l0.eq_2, if_neg (by rw [MX.ints_len]; omega)]) (Ev.now _)
  | succ d ih =>
    intro i hi
    have := ih (i + 1) (by omega)
    rw [show t + ((i + 1 : Nat) : Int) = t + (i : Int) + 1 by omega] at this
    refine Ev.step (fun k => ?_) this
    rw [laws_heldIntS.l0.eq_2, if_pos (by rw [MX.ints_len]; omega), if_pos (by omega), if_pos (ints_get t n i (by omega)), wrap_id (x := t + (i : Int) + 1) (by omega) (by omega), next_ (n := n) (by omega) (by omega)]
theorem ints_ev (t : Int) (n : Nat) (h0 : 0 ≤ t) (h1 : t + (n : Int) ≤ 4611686018427387904) (hn : n ≤ 1048576) : Ev (fun k => laws_heldIntS.f k (MX.ints t n) t) (t + (n : Int)) := by
  have h := ints_from t n h0 h1 hn n 0 (by omega)
  simp only [Int.natCast_zero, Int.add_zero] at h
  exact h
theorem at_step (a : Int) (m : List N) (i : Nat) : MX.at_ a m (i + 1) = MX.at_ a m i + 1 + ((m.getD i z58).f1.length : Int) + ((m.getD i z58).f2.length : Int) + ((m.getD i z58).f3.length : Int) := by
  unfold MX.at_
  rw [laws_markForest.tot, laws_markForest.F]
  omega
theorem at_le (a : Int) (m : List N) (i n : Nat) (h : i ≤ n) : MX.at_ a m i ≤ MX.at_ a m n := by
  unfold MX.at_
  have := laws_markForest.tot_le (laws_markForest.F m) i n h
  omega
theorem at_pos (a : Int) (m : List N) (i : Nat) (h : 0 ≤ a) : 0 ≤ MX.at_ a m i := by unfold MX.at_; omega
theorem mk_get (a : Int) (m : List N) (i : Nat) (h : i < m.length) : rd_T58 (MX.mk a m) (i : Int) = MX.one (MX.at_ a m i) (m.getD i z58) := by
  unfold rd_T58 MX.mk
  rw [Int.toNat_natCast, List.getD_eq_getElem?_getD, List.getElem?_map, List.getElem?_range h]
  rfl
theorem nodes_from (a : Int) (m : List N) (h0 : 0 ≤ a) (hl : m.length ≤ 1048576) (hs : ∀ x ∈ m, Small x) (h1 : MX.at_ a m m.length ≤ 4611686018427387904) : ∀ (d i : Nat), i + d = m.length → Ev (fun k => laws_heldNodeS.l0 k (MX.mk a m) (MX.at_ a m i) (i : Int)) (MX.at_ a m m.length) := by
  intro d
  induction d with
  | zero =>
    intro i hi
    obtain rfl : i = m.length := by omega
    exact Ev.step (f := fun _ => some _) (fun k => by rw [laws_heldNodeS.l0.eq_2, if_neg (by rw [MX.mk_len]; omega)]) (Ev.now _)
  | succ d ih =>
    intro i hi
    have him : i < m.length := by omega
    have hsm : Small (m.getD i z58) := by
      rw [List.getD_eq_getElem?_getD, List.getElem?_eq_getElem him]
      exact hs _ (List.getElem_mem him)
    have hst := at_step a m i
    have hle := at_le a m (i + 1) m.length (by omega)
    have hp := at_pos a m i h0
    have ih' := ih (i + 1) (by omega)
    rw [hst] at ih'
    obtain ⟨x, hx⟩ : ∃ x, x = m.getD i z58 := ⟨_, rfl⟩
    have hg := mk_get a m i him
    rw [← hx] at hsm hst ih' hg
    obtain ⟨T, hT⟩ : ∃ T, T = MX.at_ a m i := ⟨_, rfl⟩
    rw [← hT] at hst hp ih' hg ⊢
    obtain ⟨s1, s2, s3⟩ := hsm
    obtain ⟨xb, xk, xv, xd⟩ := x
    dsimp only at s1 s2 s3 hst ih'
    clear hx
    have hb : T + 1 + (xk.length : Int) + (xv.length : Int) + (xd.length : Int) ≤ 4611686018427387904 := by omega
    refine Ev.step (f := fun k => (laws_heldStringS.f k (MX.strs (T + 1) xk.length) (T + 1)).bind fun t289 => (if t289 < 0 then (some (-1)) else ((laws_heldStringS.f k (MX.strs (T + 1 + (xk.length : Int)) xv.length) t289).bind fun t291 => (if t291 < 0 then (some (-1)) else ((laws_heldIntS.f k (MX.ints (T + 1 + (xk.length : Int) + (xv.length : Int)) xd.length) t291).bind fun t293 => (if t293 < 0 then (some (-1)) else (laws_heldNodeS.l0 k (MX.mk a m) t293 ((i + 1 : Nat) : Int)))))))) (fun k => ?_) ?_
    · rw [laws_heldNodeS.l0.eq_2, if_pos (by rw [MX.mk_len]; omega), if_pos (by omega), hg]
      have e3 : Int.tmod T 3 = T % 3 := Int.tmod_eq_emod_of_nonneg hp
      rw [if_neg (by simp [MX.one, e3]), wrap_id (x := T + 1) (by omega) (by omega), next_ (n := m.length) him (by omega)]
      rfl
    · refine Ev.bind (strs_ev _ _ (by omega) (by omega) s1) (Ev.congr (fun _ => if_neg (by omega)) ?_)
      refine Ev.bind (strs_ev _ _ (by omega) (by omega) s2) (Ev.congr (fun _ => if_neg (by omega)) ?_)
      refine Ev.bind (ints_ev _ _ (by omega) (by omega) s3) (Ev.congr (fun _ => if_neg (by omega)) ?_)
      exact ih'
theorem forest_held (a : Int) (m : List N) (h0 : 0 ≤ a) (hl : m.length ≤ 1048576) (hs : ∀ x ∈ m, Small x) (h1 : MX.at_ a m m.length ≤ 4611686018427387904) : Ev (fun k => laws_heldForest.f k (MX.mk a m) a) (MX.at_ a m m.length) := by
  have h := nodes_from a m h0 hl hs h1 m.length 0 (by omega)
  have e : MX.at_ a m 0 = a := by unfold MX.at_; simp [laws_markForest.tot]
  rw [e] at h
  have hp := at_pos a m m.length h0
  unfold laws_heldForest.f laws_heldNodeS.f
  exact Ev.bind h (Ev.congr (fun _ => if_neg (by omega)) (Ev.now _))
end Go.Proofs.Ytcefdpjlpjgaiaa.HeldK
