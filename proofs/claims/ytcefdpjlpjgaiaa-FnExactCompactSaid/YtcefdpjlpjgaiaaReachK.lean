/- What is reached in a forest, on both sides; plain lemmas. -/
import Derived.Test.YtcefdpjlpjgaiaaTreeK
namespace Go.Proofs.Ytcefdpjlpjgaiaa.ReachK
open Go Go.RowKit Go.Proofs.Ytcefdpjlpjgaiaa.XK Go.Proofs.YtcefdpjlpjgaiaaW.PrintWords Go.Proofs.YtcefdpjlpjgaiaaW.PrintLast Go.Proofs.YtcefdpjlpjgaiaaW.PrintMore Go.Proofs.Ytcefdpjlpjgaiaa.Aid Go.Proofs.Ytcefdpjlpjgaiaa.Loops Go.Proofs.Ytcefdpjlpjgaiaa.Xtra Go.Proofs.Ytcefdpjlpjgaiaa.TreeK
set_option linter.unusedVariables false
set_option linter.unusedSimpArgs false

/-! Turned round -/
def Turn (o xs : List Int) (i : Nat) : Prop := xs.length = o.length ∧ ∀ p, p < o.length → xs.getD p 0 = if p < i ∨ o.length - i ≤ p then o.getD (o.length - 1 - p) 0 else o.getD p 0
theorem getD_set (xs : List Int) (i p : Nat) (v : Int) (hi : i < xs.length) : (xs.set i v).getD p 0 = if p = i then v else xs.getD p 0 := by
  rw [List.getD_eq_getElem?_getD, List.getD_eq_getElem?_getD, List.getElem?_set]
  by_cases h : i = p
  · subst h
    rw [if_pos rfl, if_pos rfl, if_pos hi]
    rfl
  · rw [if_neg h, if_neg (fun e => h e.symm)]
theorem Turn.next {o xs : List Int} {i : Nat} (h : Turn o xs i) (hi : 2 * i + 2 ≤ o.length) : Turn o ((xs.set i (xs.getD (o.length - 1 - i) 0)).set (o.length - 1 - i) (xs.getD i 0)) (i + 1) := by
  obtain ⟨hl, h⟩ := h
  refine ⟨by simp [hl], fun p hp => ?_⟩
  rw [getD_set _ _ _ _ (by simp; omega), getD_set _ _ _ _ (by omega)]
  by_cases h1 : p = o.length - 1 - i
  · subst h1
    rw [if_pos rfl, h i (by omega), if_neg (by omega), if_pos (by omega)]
    congr 1
    omega
  rw [if_neg h1]
  by_cases h2 : p = i
  · subst h2
    rw [if_pos rfl, h _ (by omega), if_neg (by omega), if_pos (by omega)]
  rw [if_neg h2, h p hp]
  by_cases h3 : p < i ∨ o.length - i ≤ p
  · rw [if_pos h3, if_pos (by omega)]
  · rw [if_neg h3, if_neg (by omega)]
theorem Turn.done {o xs : List Int} {i : Nat} (h : Turn o xs i) (hi : o.length ≤ 2 * i + 1) : xs = o.reverse := by
  obtain ⟨hl, h⟩ := h
  apply List.ext_getElem (by simp [hl])
  intro p h1 h2
  have hp : p < o.length := by omega
  have := h p hp
  have e : xs.getD p 0 = xs[p] := by rw [List.getD_eq_getElem?_getD, List.getElem?_eq_getElem h1]; rfl
  have e2 : o.getD (o.length - 1 - p) 0 = o.reverse[p] := by
    rw [List.getD_eq_getElem?_getD, List.getElem?_eq_getElem (by omega), List.getElem_reverse]
    rfl
  rw [← e, this, ← e2]
  by_cases h3 : p < i ∨ o.length - i ≤ p
  · rw [if_pos h3]
  · rw [if_neg h3]
    congr 1
    omega
theorem turned (o : List Int) (ho : o.length ≤ 1048576) : Ev (fun k => slices_Reverse_int_int.f k o) o.reverse := by
  have key : ∀ (d i : Nat) (xs : List Int), o.length ≤ 2 * (i + d) + 1 → 2 * i ≤ o.length + 1 → Turn o xs i → Ev (fun k => slices_Reverse_int_int.l0 k xs (i : Int) ((o.length : Int) - 1 - (i : Int))) o.reverse := by
    intro d
    induction d with
    | zero =>
      intro i xs h1 h2 ht
      have := ht.done (by omega)
      exact Ev.step (f := fun _ => some o.reverse) (fun k => by rw [slices_Reverse_int_int.l0, if_neg (by omega), this]) (Ev.now _)
    | succ d ih =>
      intro i xs h1 h2 ht
      by_cases hlt : (i : Int) < (o.length : Int) - 1 - (i : Int)
      · have hl := ht.1
        obtain ⟨j, hj⟩ : ∃ j : Nat, j = o.length - 1 - i := ⟨_, rfl⟩
        have hj2 : (o.length : Int) - 1 - (i : Int) = (j : Int) := by omega
        refine Ev.step (fun k => ?_) (ih (i + 1) _ (by omega) (by omega) (ht.next (by omega)))
        rw [hj2, slices_Reverse_int_int.l0, if_pos (by omega), if_pos (by omega), if_pos (by omega), if_pos (by omega), if_pos (by omega), wrap_id (by omega) (by omega), wrap_id (by omega) (by omega)]
        unfold rd
        rw [Int.toNat_natCast, Int.toNat_natCast, ← hj]
        congr 1
        · omega
      · have := ht.done (by omega)
        exact Ev.step (f := fun _ => some o.reverse) (fun k => by rw [slices_Reverse_int_int.l0, if_neg hlt, this]) (Ev.now _)
  have h0 := key o.length 0 o (by omega) (by omega) ⟨rfl, fun p hp => by rw [if_neg (by omega)]⟩
  unfold slices_Reverse_int_int.f
  rw [wrap_id (by omega) (by omega)]
  simpa using h0

/-! Marks -/
def kidsOf (m : List N) (i : Nat) : List Int := (m.getD i z58).f3
def put (b : List Bool) (y : Int) : List Bool := b.set y.toNat true
def step (m : List N) (b : List Bool) (i : Nat) : List Bool := if b.getD i false = true then (kidsOf m i).foldl put b else b
def run (m : List N) : Nat → List Bool → List Bool
  | 0, b => b
  | c + 1, b => run m c (step m b c)
def outs (m : List N) : Nat → List Bool → List Int → List Int
  | 0, _, acc => acc
  | c + 1, b, acc => outs m c (step m b c) (if b.getD c false = true then acc ++ [(c : Int)] else acc)
def Fit (m : List N) : Prop := ∀ i, i < m.length → (kidsOf m i).length ≤ 1048576 ∧ ∀ y ∈ kidsOf m i, 0 ≤ y ∧ y < (i : Int)
theorem fit_of {m : List N} (hs : ∀ x ∈ m, Small x) (hl : m.length ≤ 1048576) (h : ok m = true) : Fit m := by
  intro i hi
  have hg : m.getD i z58 = m[i] := by simp [List.getD_eq_getElem?_getD, List.getElem?_eq_getElem hi]
  have hm := hs m[i] (List.getElem_mem hi)
  unfold kidsOf
  rw [hg]
  refine ⟨hm.2.2, fun y hy => ?_⟩
  unfold ok at h
  rw [Bool.and_eq_true] at h
  have h1 := List.all_eq_true.1 h.1 i (by simpa using hi)
  rw [hg] at h1
  unfold okN at h1
  rw [Bool.and_eq_true, Bool.and_eq_true] at h1
  have h2 := h1.2.2
  unfold tail at h2
  by_cases e : m[i].f0 = true
  · rw [if_pos e, Bool.and_eq_true, Bool.and_eq_true] at h2
    have h3 := h2.2.1
    have : m[i].f3 = [] := List.length_eq_zero_iff.1 (by have := eq_of_beq h3; omega)
    rw [this] at hy
    simp at hy
  · rw [if_neg e, Bool.and_eq_true, Bool.and_eq_true] at h2
    have h3 := h2.2.2
    rw [Bool.not_eq_true', List.any_eq_false] at h3
    have h4 := h3 y hy
    unfold impl_nodeOK.q at h4
    rw [win_is, wrap_id (by omega) (by omega)] at h4
    unfold within at h4
    by_cases hy0 : y ≥ 0
    · rw [if_pos hy0] at h4
      simp at h4
      omega
    · rw [if_neg hy0] at h4
      simp at h4
theorem foldl_len (l : List Int) : ∀ b : List Bool, (l.foldl put b).length = b.length := by
  induction l with
  | nil => intro b; rfl
  | cons y l ih => intro b; rw [List.foldl_cons, ih]; simp [put]
theorem foldl_get (l : List Int) (i : Nat) : ∀ b : List Bool, (∀ y ∈ l, 0 ≤ y ∧ y < (i : Int)) → ∀ j, i ≤ j → (l.foldl put b).getD j false = b.getD j false := by
  induction l with
  | nil => intro b _ j _; rfl
  | cons y l ih =>
    intro b h j hj
    rw [List.foldl_cons, ih _ (fun z hz => h z (List.mem_cons_of_mem _ hz)) j hj]
    have := h y (List.mem_cons_self ..)
    unfold put
    rw [List.getD_eq_getElem?_getD, List.getD_eq_getElem?_getD, List.getElem?_set, if_neg (by omega)]
theorem step_len (m : List N) (b : List Bool) (i : Nat) : (step m b i).length = b.length := by
  unfold step
  split
  · exact foldl_len _ _
  · rfl
theorem step_get {m : List N} (hf : Fit m) (b : List Bool) (i : Nat) (hi : i < m.length) (j : Nat) (hj : i ≤ j) : (step m b i).getD j false = b.getD j false := by
  unfold step
  split
  · exact foldl_get _ i b (hf i hi).2 j hj
  · rfl
theorem run_len (m : List N) : ∀ (c : Nat) (b : List Bool), (run m c b).length = b.length
  | 0, _ => rfl
  | c + 1, b => by rw [run, run_len m c, step_len]
theorem run_get {m : List N} (hf : Fit m) : ∀ (c : Nat) (b : List Bool), c ≤ m.length → ∀ j, c ≤ j → (run m c b).getD j false = b.getD j false
  | 0, _, _, _, _ => rfl
  | c + 1, b, hc, j, hj => by rw [run, run_get hf c _ (by omega) j (by omega), step_get hf b c (by omega) j (by omega)]
def told (b : List Bool) (c : Nat) : List Int := ((List.range c).filter fun i => b.getD i false).map fun (i : Nat) => (i : Int)
theorem told_next (b : List Bool) (c : Nat) : told b (c + 1) = if b.getD c false = true then told b c ++ [(c : Int)] else told b c := by
  unfold told
  rw [List.range_succ, List.filter_append, List.map_append]
  by_cases h : b.getD c false = true
  · rw [if_pos h]
    simp only [List.filter_cons, h, if_true, List.filter_nil, List.map_cons, List.map_nil]
  · rw [if_neg h]
    simp only [List.filter_cons, h, if_false, List.filter_nil, List.map_nil, List.append_nil]
    simp
theorem told_len (b : List Bool) (c : Nat) : (told b c).length ≤ c := by
  unfold told
  rw [List.length_map]
  exact Nat.le_trans (List.length_filter_le _ _) (by simp)
theorem outs_is {m : List N} (hf : Fit m) : ∀ (c : Nat) (b : List Bool) (acc : List Int), c ≤ m.length → outs m c b acc = acc ++ (told (run m c b) c).reverse
  | 0, b, acc, _ => by simp [outs, told]
  | c + 1, b, acc, hc => by
    rw [outs, outs_is hf c _ _ (by omega), run, told_next, run_get hf c _ (by omega) c (Nat.le_refl _), step_get hf b c (by omega) c (Nat.le_refl _)]
    by_cases h : b.getD c false = true
    · rw [if_pos h, if_pos h]
      simp
    · rw [if_neg h, if_neg h]

/-! The reference's marks -/
theorem rdB (b : List Bool) (i : Nat) : rdOf false b (i : Int) = b.getD i false := by
  unfold rdOf
  rw [Int.toNat_natCast]
theorem rdK (xs : List Int) (i : Nat) : rd xs (i : Int) = xs.getD i 0 := by
  unfold rd
  rw [Int.toNat_natCast]
theorem rdM (m : List N) (i : Nat) : rd_T58 m (i : Int) = m.getD i z58 := by
  unfold rd_T58
  rw [Int.toNat_natCast]
theorem drop_step (l : List Int) (j : Nat) (h : j < l.length) : l.drop j = l.getD j 0 :: l.drop (j + 1) := by
  rw [List.drop_eq_getElem_cons h, List.getD_eq_getElem?_getD, List.getElem?_eq_getElem h]
  rfl
theorem marks_inner {m : List N} (hf : Fit m) (c : Nat) (hc : c < m.length) (r : List Bool) : ∀ (d j : Nat) (b : List Bool), j + d = (kidsOf m c).length → b.length = m.length → m.length ≤ 1048576 → b.getD c false = true →
    Ev (fun k => spec_l05Marks.l1 k (((kidsOf m c).drop j).foldl put b) ((c : Int) - 1) m) r → Ev (fun k => spec_l05Marks.l2 k b (c : Int) (j : Int) m) r := by
  intro d
  induction d with
  | zero =>
    intro j b hj hb hl hbc h
    rw [List.drop_of_length_le (by omega)] at h
    refine Ev.step (fun k => ?_) h
    have hk : (kidsOf m c).length = (rd_T58 m (c : Int)).f3.length := by rw [rdM]; rfl
    rw [spec_l05Marks.l2, if_pos (by omega), if_pos (by omega), rdB, if_pos hbc, if_pos (by omega), if_neg (by omega), wrap_id (by omega) (by omega)]
    rfl
  | succ d ih =>
    intro j b hj hb hl hbc h
    have hk : (kidsOf m c).length = (rd_T58 m (c : Int)).f3.length := by rw [rdM]; rfl
    have hke : (rd_T58 m (c : Int)).f3 = kidsOf m c := by rw [rdM]; rfl
    have hl2 := (hf c hc).1
    rw [drop_step _ j (by omega), List.foldl_cons] at h
    have hy := (hf c hc).2 ((kidsOf m c).getD j 0) (by
      rw [List.getD_eq_getElem?_getD, List.getElem?_eq_getElem (by omega)]
      exact List.getElem_mem _)
    generalize hyy : (kidsOf m c).getD j 0 = y at h hy
    refine Ev.step (fun k => ?_) (ih (j + 1) (put b y) (by omega) (by simp [put, hb]) hl (by
      rw [← hbc]
      exact foldl_get [y] c b (fun z hz => by simp only [List.mem_singleton] at hz; rw [hz]; exact hy) c (Nat.le_refl _)) h)
    rw [spec_l05Marks.l2, if_pos (by omega), if_pos (by omega), rdB, if_pos hbc, if_pos (by omega), if_pos (by omega), if_pos (by omega), hke, rdK, hyy, if_pos (by omega), if_pos (by omega), next_ (n := (kidsOf m c).length) (by omega) (by omega)]
    rfl
theorem marks_outer {m : List N} (hf : Fit m) (hl : m.length ≤ 1048576) : ∀ (c : Nat) (b : List Bool), c ≤ m.length → b.length = m.length → Ev (fun k => spec_l05Marks.l1 k b ((c : Int) - 1) m) (run m c b) := by
  intro c
  induction c with
  | zero =>
    intro b hc hb
    exact Ev.step (f := fun _ => some b) (fun k => by rw [spec_l05Marks.l1, if_neg (by omega)]) (Ev.now _)
  | succ c ih =>
    intro b hc hb
    have h := ih (step m b c) (by omega) (by rw [step_len, hb])
    have e : ((c + 1 : Nat) : Int) - 1 = (c : Int) := by omega
    rw [e]
    refine Ev.step (f := fun k => spec_l05Marks.l2 k b (c : Int) 0 m) (fun k => by rw [spec_l05Marks.l1, if_pos (by omega)]) ?_
    by_cases hbc : b.getD c false = true
    · have e2 : step m b c = (kidsOf m c).foldl put b := by unfold step; rw [if_pos hbc]
      rw [run]
      refine marks_inner hf c (by omega) _ (kidsOf m c).length 0 b (by omega) hb hl hbc ?_
      rw [List.drop_zero, ← e2]
      exact h
    · have e2 : step m b c = b := by unfold step; rw [if_neg hbc]
      rw [e2] at h
      rw [run, e2]
      refine Ev.step (fun k => ?_) h
      rw [spec_l05Marks.l2, if_pos (by omega), if_pos (by omega), rdB, if_neg hbc, wrap_id (by omega) (by omega)]
/-- Marks at the roots. -/
def rootPut (b : List Bool) (y : Int) : List Bool := if y ≥ 0 then put b y else b
theorem root_len (b : List Bool) (y : Int) : (rootPut b y).length = b.length := by
  unfold rootPut put
  split <;> simp
def Roots (n : Nat) (rs : List Int) : Prop := ∀ y ∈ rs, -1 ≤ y ∧ y < (n : Int)
theorem marks_roots {m : List N} (hf : Fit m) (hl : m.length ≤ 1048576) (rs : List Int) (hr : Roots m.length rs) (hrl : rs.length ≤ 1048576) : ∀ (d i : Nat) (b : List Bool), i + d = rs.length → b.length = m.length →
    Ev (fun k => spec_l05Marks.l0 k rs b (i : Int) m) (run m m.length ((rs.drop i).foldl rootPut b)) := by
  intro d
  induction d with
  | zero =>
    intro i b hi hb
    rw [List.drop_of_length_le (by omega)]
    refine Ev.step (fun k => ?_) (marks_outer hf hl m.length b (Nat.le_refl _) hb)
    rw [spec_l05Marks.l0, if_neg (by omega), wrap_id (by omega) (by omega), hb]
  | succ d ih =>
    intro i b hi hb
    rw [drop_step rs i (by omega), List.foldl_cons]
    have hy := hr (rs.getD i 0) (by
      rw [List.getD_eq_getElem?_getD, List.getElem?_eq_getElem (by omega)]
      exact List.getElem_mem _)
    generalize hyy : rs.getD i 0 = y at hy
    refine Ev.step (fun k => ?_) (ih (i + 1) (rootPut b y) (by omega) (by rw [root_len, hb]))
    rw [spec_l05Marks.l0, if_pos (by omega), if_pos (by omega), rdK, hyy, next_ (n := rs.length) (by omega) (by omega)]
    unfold rootPut
    by_cases h0 : y ≥ 0
    · rw [if_pos h0, if_pos h0, if_pos (by omega), if_pos (by omega)]
      rfl
    · rw [if_neg h0, if_neg h0]
/-! The program's -/
theorem impl_inner {m : List N} (hf : Fit m) (c : Nat) (hc : c < m.length) (acc : List Int) (r : List Int) (hl : m.length ≤ 1048576) : ∀ (d j : Nat) (b : List Bool), j + d = (kidsOf m c).length → b.length = m.length →
    Ev (fun k => impl_Forest_reached.l1 k (((kidsOf m c).drop j).foldl put b) acc ((c : Int) - 1) m) r → Ev (fun k => impl_Forest_reached.l2 k b acc (c : Int) (kidsOf m c) ((kidsOf m c).length : Int) (j : Int) m) r := by
  intro d
  induction d with
  | zero =>
    intro j b hj hb h
    rw [List.drop_of_length_le (by omega)] at h
    refine Ev.step (fun k => ?_) h
    rw [impl_Forest_reached.l2, if_neg (by omega), wrap_id (by omega) (by omega)]
    rfl
  | succ d ih =>
    intro j b hj hb h
    have hl2 := (hf c hc).1
    rw [drop_step _ j (by omega), List.foldl_cons] at h
    have hy := (hf c hc).2 ((kidsOf m c).getD j 0) (by
      rw [List.getD_eq_getElem?_getD, List.getElem?_eq_getElem (by omega)]
      exact List.getElem_mem _)
    generalize hyy : (kidsOf m c).getD j 0 = y at h hy
    refine Ev.step (fun k => ?_) (ih (j + 1) (put b y) (by omega) (by simp [put, hb]) h)
    rw [impl_Forest_reached.l2, if_pos (by omega), if_pos (by omega), if_pos (by omega), rdK, hyy, if_pos (by omega), if_pos (by omega), next_ (n := (kidsOf m c).length) (by omega) (by omega)]
    rfl
theorem impl_outer {m : List N} (hf : Fit m) (hl : m.length ≤ 1048576) : ∀ (c : Nat) (b : List Bool) (acc : List Int), c ≤ m.length → b.length = m.length → acc.length + c ≤ 1048576 → Ev (fun k => impl_Forest_reached.l1 k b acc ((c : Int) - 1) m) (outs m c b acc).reverse := by
  intro c
  induction c with
  | zero =>
    intro b acc hc hb ha
    refine Ev.step (f := fun k => (slices_Reverse_int_int.f k acc).bind fun t => some t) (fun k => by rw [impl_Forest_reached.l1, if_neg (by omega)]) ?_
    exact Ev.bind (turned acc (by omega)) (Ev.now _)
  | succ c ih =>
    intro b acc hc hb ha
    have e : ((c + 1 : Nat) : Int) - 1 = (c : Int) := by omega
    rw [e, outs]
    by_cases hbc : b.getD c false = true
    · have e2 : step m b c = (kidsOf m c).foldl put b := by unfold step; rw [if_pos hbc]
      have h := ih (step m b c) (acc ++ [(c : Int)]) (by omega) (by rw [step_len, hb]) (by simp; omega)
      rw [if_pos hbc]
      refine Ev.step (f := fun k => impl_Forest_reached.l2 k b (acc ++ [(c : Int)]) (c : Int) (kidsOf m c) ((kidsOf m c).length : Int) 0 m) (fun k => ?_) ?_
      · have hke : (rd_T58 m (c : Int)).f3 = kidsOf m c := by rw [rdM]; rfl
        rw [impl_Forest_reached.l1, if_pos (by omega), if_pos (by omega), if_pos (by omega), rdB, if_pos hbc, if_pos (by omega), if_pos (by omega), hke]
      · refine impl_inner hf c (by omega) _ _ hl (kidsOf m c).length 0 b (by omega) hb ?_
        rw [List.drop_zero, ← e2]
        exact h
    · have e2 : step m b c = b := by unfold step; rw [if_neg hbc]
      have h := ih (step m b c) acc (by omega) (by rw [step_len, hb]) (by omega)
      rw [if_neg hbc]
      rw [e2] at h ⊢
      refine Ev.step (fun k => ?_) h
      rw [impl_Forest_reached.l1, if_pos (by omega), if_pos (by omega), if_pos (by omega), rdB, if_neg hbc, wrap_id (by omega) (by omega)]
theorem impl_roots {m : List N} (hf : Fit m) (hl : m.length ≤ 1000) (rs : List Int) (hr : Roots m.length rs) (hrl : rs.length ≤ 1048576) : ∀ (d i : Nat) (b : List Bool), i + d = rs.length → b.length = m.length →
    Ev (fun k => impl_Forest_reached.l0 k b rs (rs.length : Int) (i : Int) m) (outs m m.length ((rs.drop i).foldl rootPut b) []).reverse := by
  intro d
  induction d with
  | zero =>
    intro i b hi hb
    rw [List.drop_of_length_le (by omega)]
    refine Ev.step (fun k => ?_) (impl_outer hf (by omega) m.length b [] (Nat.le_refl _) hb (by simp; omega))
    rw [impl_Forest_reached.l0, if_neg (by omega), wrap_id (by omega) (by omega), hb]
  | succ d ih =>
    intro i b hi hb
    rw [drop_step rs i (by omega), List.foldl_cons]
    have hy := hr (rs.getD i 0) (by
      rw [List.getD_eq_getElem?_getD, List.getElem?_eq_getElem (by omega)]
      exact List.getElem_mem _)
    generalize hyy : rs.getD i 0 = y at hy
    refine Ev.step (fun k => ?_) (ih (i + 1) (rootPut b y) (by omega) (by rw [root_len, hb]))
    rw [impl_Forest_reached.l0, if_pos (by omega), if_pos (by omega), if_pos (by omega), rdK, hyy, next_ (n := rs.length) (by omega) (by omega)]
    unfold rootPut
    by_cases h0 : y = -1
    · rw [if_pos h0, if_neg (by omega)]
    · rw [if_neg h0, if_pos (by omega), if_pos (by omega), if_pos (by omega)]
      rfl
/-! Roots' code -/
def inR (n : Nat) (y : Int) : Bool := within y (-1) ((n : Int) - 1)
theorem inR_of {n : Nat} {y : Int} (h : inR n y = true) : -1 ≤ y ∧ y < (n : Int) := by
  unfold inR within at h
  by_cases h0 : y ≥ -1
  · rw [if_pos h0] at h
    have := of_decide_eq_true h
    omega
  · rw [if_neg h0] at h
    cases h
theorem q_is (n : Nat) (hn : n ≤ 1048576) (y : Int) : impl_rootsCode.q n y = !inR n y := by
  unfold impl_rootsCode.q impl_rootsCode.w inR
  rw [in_impl, wrap_id (by omega) (by omega)]
  rfl
theorem roots_spec (m : List N) (hl : m.length ≤ 1048576) (rs : List Int) (hrl : rs.length ≤ 1048576) : ∀ (d i : Nat), i + d = rs.length →
    Ev (fun k => spec_l05Roots.l0 k rs (i : Int) m) (if (rs.drop i).all (inR m.length) = true then 0 else 4) := by
  intro d
  induction d with
  | zero =>
    intro i hi
    rw [List.drop_of_length_le (by omega)]
    exact Ev.step (f := fun _ => some _) (fun k => by rw [spec_l05Roots.l0, if_neg (by omega)]; rfl) (Ev.now _)
  | succ d ih =>
    intro i hi
    rw [drop_step rs i (by omega), List.all_cons]
    refine Ev.step (f := fun k => if inR m.length (rs.getD i 0) = true then spec_l05Roots.l0 k rs ((i + 1 : Nat) : Int) m else some 4) (fun k => ?_) ?_
    · rw [spec_l05Roots.l0, if_pos (by omega), if_pos (by omega), rdK, in_spec, wrap_id (x := (m.length : Int) - 1) (by omega) (by omega), next_ (n := rs.length) (by omega) (by omega)]
      rfl
    · cases h : inR m.length (rs.getD i 0) with
      | true =>
        rw [Bool.true_and]
        exact Ev.congr (fun _ => if_pos rfl) (ih (i + 1) (by omega))
      | false =>
        rw [Bool.false_and]
        exact Ev.congr (fun _ => if_neg (by simp)) (Ev.now _)
/-- Both answer alike: an error, or what is reached. -/
theorem both (m : List N) (hl : m.length ≤ 1048576) (hs : ∀ x ∈ m, Small x) (rs : List Int) (hrl : rs.length ≤ 1048576) :
    ((4096 : Int) < (rs.length : Int) ∧ Ev (fun k => impl_rootsCode.f k m rs) 2) ∨
    (∃ c : Int, c ≠ 0 ∧ ¬ (4096 : Int) < (rs.length : Int) ∧ Ev (fun k => spec_l05Roots.f k m rs) c ∧ Ev (fun k => impl_rootsCode.f k m rs) c) ∨
    (∃ B : List Bool, B.length = m.length ∧ m.length ≤ 1000 ∧ rs.length ≤ 4096 ∧ Fit m ∧ Roots m.length rs ∧ B = run m m.length (rs.foldl rootPut (List.replicate m.length false)) ∧ ¬ (4096 : Int) < (rs.length : Int) ∧ Ev (fun k => spec_l05Roots.f k m rs) 0 ∧ Ev (fun k => impl_rootsCode.f k m rs) 0 ∧ Ev (fun k => spec_l05Marks.f k m rs) B ∧ Ev (fun k => impl_Forest_reached.f k m rs) (told B m.length)) := by
  by_cases h1 : (4096 : Int) < (rs.length : Int)
  · refine .inl ⟨h1, ?_⟩
    unfold impl_rootsCode.f
    exact Ev.congr (fun _ => if_pos h1) (Ev.now _)
  have h1' : ¬ (rs.length : Int) > 4096 := h1
  have os := ok_spec m hl hs
  have oi := ok_impl m hl
  cases ho : ok m with
  | false =>
    rw [ho] at os oi
    refine .inr (.inl ⟨1, by decide, h1, ?_, ?_⟩)
    · unfold spec_l05Roots.f
      exact Ev.congr (fun _ => if_neg h1') (Ev.bind os (Ev.congr (fun _ => if_neg (by simp)) (Ev.now _)))
    · unfold impl_rootsCode.f
      exact Ev.congr (fun _ => if_neg h1) (Ev.bind oi (Ev.congr (fun _ => if_neg (by simp)) (Ev.now _)))
  | true =>
    have hf := fit_of hs hl ho
    have hl6 : m.length ≤ 1000 := by
      have := ho
      unfold ok at this
      rw [Bool.and_eq_true] at this
      have := of_decide_eq_true this.2
      omega
    rw [ho] at os oi
    have hroots := roots_spec m hl rs hrl rs.length 0 (by omega)
    rw [List.drop_zero] at hroots
    have hany : rs.any (impl_rootsCode.q m.length) = !rs.all (inR m.length) := by
      rw [Bool.eq_iff_iff, List.any_eq_true, Bool.not_eq_true', List.all_eq_false]
      constructor
      · rintro ⟨y, hy, h⟩
        rw [q_is m.length hl] at h
        exact ⟨y, hy, by simpa using h⟩
      · rintro ⟨y, hy, h⟩
        exact ⟨y, hy, by rw [q_is m.length hl]; simpa using h⟩
    cases hall : rs.all (inR m.length) with
    | false =>
      rw [hall] at hroots hany
      refine .inr (.inl ⟨4, by decide, h1, ?_, ?_⟩)
      · unfold spec_l05Roots.f
        exact Ev.congr (fun _ => if_neg h1') (Ev.bind os (Ev.congr (fun _ => if_pos rfl) hroots))
      · unfold impl_rootsCode.f
        rw [hany]
        exact Ev.congr (fun _ => if_neg h1) (Ev.bind oi (Ev.congr (fun _ => if_pos rfl) (Ev.now _)))
    | true =>
      rw [hall] at hroots hany
      have hr : Roots m.length rs := fun y hy => inR_of (List.all_eq_true.1 hall y hy)
      have hms := marks_roots hf hl rs hr hrl rs.length 0 (List.replicate m.length false) (by omega) (by simp)
      have hmi := impl_roots hf hl6 rs hr hrl rs.length 0 (List.replicate m.length false) (by omega) (by simp)
      rw [List.drop_zero] at hms hmi
      rw [outs_is hf _ _ _ (Nat.le_refl _), List.nil_append, List.reverse_reverse] at hmi
      obtain ⟨B, hB⟩ : ∃ B, B = run m m.length (rs.foldl rootPut (List.replicate m.length false)) := ⟨_, rfl⟩
      rw [← hB] at hms hmi
      have hBl : B.length = m.length := by
        rw [hB, run_len]
        have : ∀ (l : List Int) (b : List Bool), (l.foldl rootPut b).length = b.length := by
          intro l
          induction l with
          | nil => intro b; rfl
          | cons y l ih => intro b; rw [List.foldl_cons, ih, root_len]
        rw [this]
        simp
      refine .inr (.inr ⟨B, hBl, hl6, by omega, hf, hr, hB, h1, ?_, ?_, ?_, ?_⟩)
      · unfold spec_l05Roots.f
        exact Ev.congr (fun _ => if_neg h1') (Ev.bind os (Ev.congr (fun _ => if_pos rfl) hroots))
      · unfold impl_rootsCode.f
        rw [hany]
        exact Ev.congr (fun _ => if_neg h1) (Ev.bind oi (Ev.congr (fun _ => if_pos rfl) (Ev.now _)))
      · unfold spec_l05Marks.f
        refine Ev.congr (fun _ => ?_) hms
        rw [if_pos (by omega), if_pos (by omega), Int.toNat_natCast]
        rfl
      · unfold impl_Forest_reached.f
        refine Ev.congr (fun _ => ?_) hmi
        rw [if_pos (by omega), if_pos (by omega), Int.toNat_natCast]
        rfl
end Go.Proofs.Ytcefdpjlpjgaiaa.ReachK
