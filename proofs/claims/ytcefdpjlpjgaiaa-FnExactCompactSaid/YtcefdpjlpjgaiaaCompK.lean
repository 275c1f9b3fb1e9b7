/- What compacting answers, on both sides; plain lemmas. -/
import Derived.Test.YtcefdpjlpjgaiaaReachK
import Derived.Test.YtcefdpjlpjgaiaaXKHimplCompact
import Derived.Test.YtcefdpjlpjgaiaaXKHspecCompact
namespace Go.Proofs.Ytcefdpjlpjgaiaa.CompK
open Go Go.RowKit Go.Proofs.Ytcefdpjlpjgaiaa.XK Go.Proofs.YtcefdpjlpjgaiaaW.PrintWords Go.Proofs.YtcefdpjlpjgaiaaW.PrintLast Go.Proofs.YtcefdpjlpjgaiaaW.PrintMore Go.Proofs.Ytcefdpjlpjgaiaa.Aid Go.Proofs.Ytcefdpjlpjgaiaa.Loops Go.Proofs.Ytcefdpjlpjgaiaa.Xtra Go.Proofs.Ytcefdpjlpjgaiaa.TreeK Go.Proofs.Ytcefdpjlpjgaiaa.ReachK
set_option linter.unusedVariables false
set_option linter.unusedSimpArgs false

theorem map_ {α β : Type} {g : Nat → Option α} {r : α} (f : α → β) (h : Ev g r) : Ev (fun k => (g k).map f) (f r) := by
  obtain ⟨K, h⟩ := h
  exact ⟨K, fun k hk => by show (g k).map f = _; rw [h k hk]; rfl⟩
/-! Places -/
theorem told_parts (B : List Bool) (a : Nat) : ∀ c, a ≤ c → ∃ r, told B c = told B a ++ r ∧ ∀ y ∈ r, (a : Int) ≤ y ∧ y < (c : Int) := by
  intro c
  induction c with
  | zero =>
    intro h
    obtain rfl : a = 0 := by omega
    exact ⟨[], by simp, by simp⟩
  | succ c ih =>
    intro h
    by_cases hc : a = c + 1
    · subst hc
      exact ⟨[], by simp, by simp⟩
    obtain ⟨r, h1, h2⟩ := ih (by omega)
    rw [told_next]
    by_cases hb : B.getD c false = true
    · rw [if_pos hb]
      refine ⟨r ++ [(c : Int)], by rw [h1, List.append_assoc], fun y hy => ?_⟩
      rcases List.mem_append.1 hy with hy | hy
      · have := h2 y hy
        omega
      · rw [List.mem_singleton] at hy
        omega
    · rw [if_neg hb]
      exact ⟨r, h1, fun y hy => by have := h2 y hy; omega⟩
theorem told_bound (B : List Bool) (c : Nat) : ∀ y ∈ told B c, 0 ≤ y ∧ y < (c : Int) := by
  obtain ⟨r, h1, h2⟩ := told_parts B 0 c (Nat.zero_le c)
  intro y hy
  rw [h1] at hy
  have h0 : told B 0 = [] := rfl
  rw [h0, List.nil_append] at hy
  have := h2 y hy
  omega
theorem told_mem (B : List Bool) (c : Nat) (y : Int) : y ∈ told B c → B.getD y.toNat false = true := by
  unfold told
  rw [List.mem_map]
  rintro ⟨i, hi, rfl⟩
  simpa using (List.mem_filter.1 hi).2
/-- A number that is told stands at its place. -/
theorem told_at (B : List Bool) (c x : Nat) (hx : x < c) (hb : B.getD x false = true) : ∃ r, told B c = told B x ++ (x : Int) :: r ∧ (∀ y ∈ told B x, y < (x : Int)) ∧ ∀ y ∈ r, (x : Int) < y := by
  obtain ⟨r, h1, h2⟩ := told_parts B (x + 1) c (by omega)
  rw [told_next, if_pos hb, List.append_assoc] at h1
  exact ⟨r, h1, fun y hy => (told_bound B x y hy).2, fun y hy => by have := h2 y hy; omega⟩
def pos (B : List Bool) (y : Int) : Int := ((told B y.toNat).length : Int)
/-! The search -/
theorem u64_half (a b : Int) (h0 : 0 ≤ a) (h1 : 0 ≤ b) (h2 : a + b ≤ 1000000) : wrap64 (IntKind.u64.wrap (wrap64 (a + b)) / 2) = (a + b) / 2 := by
  rw [wrap_id (x := a + b) (by omega) (by omega)]
  have : IntKind.u64.wrap (a + b) = a + b := by
    have hw : IntKind.u64.wrap (a + b) = (a + b) % 18446744073709551616 := by simp [IntKind.wrap, IntKind.bits, IntKind.signed]
    rw [hw]
    omega
  rw [this, wrap_id (by omega) (by omega)]
theorem less_is (a b : Int) : cmp_Less_int.f a b = some (decide (a < b)) := by
  unfold cmp_Less_int.f cmp_isNaN_int.f
  simp
theorem search_from (l : List Int) (x : Int) (p : Nat) (hp : p < l.length) (hl : l.length ≤ 1000) (hx : l.getD p 0 = x) (hlt : ∀ h, h < l.length → (l.getD h 0 < x ↔ h < p)) :
    ∀ (d i j : Nat), j ≤ i + d → i ≤ p → p ≤ j → j ≤ l.length → Ev (fun k => slices_BinarySearch_int_int.l0 k l x (l.length : Int) (i : Int) (j : Int)) ((p : Int), true) := by
  intro d
  induction d with
  | zero =>
    intro i j h1 h2 h3 h4
    obtain rfl : p = i := by omega
    obtain rfl : j = p := by omega
    refine Ev.step (f := fun _ => some ((j : Int), true)) (fun k => ?_) (Ev.now _)
    rw [slices_BinarySearch_int_int.l0.eq_2, if_neg (by omega), if_pos (by omega), if_pos (by omega), if_pos (by omega), rdK, if_pos hx]
  | succ d ih =>
    intro i j h1 h2 h3 h4
    by_cases hij : i < j
    · have hh : wrap64 (IntKind.u64.wrap (wrap64 ((i : Int) + (j : Int))) / 2) = (((i + j) / 2 : Nat) : Int) := by
        rw [u64_half _ _ (by omega) (by omega) (by omega)]
        omega
      have hm : (i + j) / 2 < l.length := by omega
      by_cases hc : l.getD ((i + j) / 2) 0 < x
      · have := (hlt _ hm).1 hc
        refine Ev.step (fun k => ?_) (ih ((i + j) / 2 + 1) j (by omega) (by omega) h3 h4)
        rw [slices_BinarySearch_int_int.l0.eq_2, if_pos (by omega), hh, if_pos (by omega), if_pos (by omega), rdK, less_is, Option.bind_some, if_pos (by simpa using hc), next_ (n := l.length) hm (by omega)]
      · have : ¬ (i + j) / 2 < p := fun h => hc ((hlt _ hm).2 h)
        refine Ev.step (fun k => ?_) (ih i ((i + j) / 2) (by omega) h2 (by omega) (by omega))
        rw [slices_BinarySearch_int_int.l0.eq_2, if_pos (by omega), hh, if_pos (by omega), if_pos (by omega), rdK, less_is, Option.bind_some, if_neg (by simpa using hc)]
    · have e1 : i = p := by omega
      have e2 : j = p := by omega
      rw [e1, e2]
      refine Ev.step (f := fun _ => some ((p : Int), true)) (fun k => ?_) (Ev.now _)
      rw [slices_BinarySearch_int_int.l0.eq_2, if_neg (by omega), if_pos (by omega), if_pos (by omega), if_pos (by omega), rdK, if_pos hx]
theorem search (B : List Bool) (c : Nat) (hc : c ≤ 1000) (x : Int) (h0 : 0 ≤ x) (hx : x < (c : Int)) (hb : B.getD x.toNat false = true) : Ev (fun k => impl_Compact.bs k (told B c) x) (pos B x) := by
  obtain ⟨n, rfl⟩ := Int.eq_ofNat_of_zero_le h0
  rw [Int.toNat_natCast] at hb
  obtain ⟨r, h1, h2, h3⟩ := told_at B c n (by omega) hb
  have hl := told_len B c
  have hlen : (told B c).length = (told B n).length + (r.length + 1) := by rw [h1]; simp
  have hg : ∀ h, h < (told B c).length → ((told B c).getD h 0 < (n : Int) ↔ h < (told B n).length) := by
    intro h hh
    rw [h1, List.getD_eq_getElem?_getD]
    by_cases hp : h < (told B n).length
    · rw [List.getElem?_append_left hp, List.getElem?_eq_getElem hp]
      exact ⟨fun _ => hp, fun _ => h2 _ (List.getElem_mem hp)⟩
    · rw [List.getElem?_append_right (by omega)]
      refine ⟨fun hlt => absurd hlt ?_, fun h => absurd h hp⟩
      cases hd : h - (told B n).length with
      | zero => simp
      | succ d =>
        rw [List.getElem?_cons_succ, List.getElem?_eq_getElem (by omega)]
        have := h3 _ (List.getElem_mem (l := r) (n := d) (by omega))
        simp only [Option.getD_some]
        omega
  have hs := search_from (told B c) (n : Int) (told B n).length (by omega) (by omega) (by rw [h1, List.getD_eq_getElem?_getD, List.getElem?_append_right (by omega)]; simp) hg (told B c).length 0 (told B c).length (by omega) (by omega) (by omega) (Nat.le_refl _)
  unfold impl_Compact.bs slices_BinarySearch_int_int.f pos
  rw [Int.toNat_natCast]
  exact map_ (fun t => t.1) hs
/-! What is kept is closed -/
theorem getB_set (b : List Bool) (i y : Nat) : (b.set i true).getD y false = if i = y ∧ y < b.length then true else b.getD y false := by
  rw [List.getD_eq_getElem?_getD, List.getD_eq_getElem?_getD, List.getElem?_set]
  by_cases h : i = y
  · subst h
    by_cases hl : i < b.length
    · simp [hl]
    · simp [hl]
  · simp [h]
theorem put_mono (b : List Bool) (z : Int) (y : Nat) (h : b.getD y false = true) : (put b z).getD y false = true := by
  unfold put
  rw [getB_set]
  split
  · rfl
  · exact h
theorem foldl_mono (l : List Int) : ∀ (b : List Bool) (y : Nat), b.getD y false = true → (l.foldl put b).getD y false = true := by
  induction l with
  | nil => intro b y h; exact h
  | cons z l ih => intro b y h; exact ih _ y (put_mono b z y h)
theorem foldl_self (l : List Int) : ∀ (b : List Bool) (y : Int), y ∈ l → y.toNat < b.length → (l.foldl put b).getD y.toNat false = true := by
  induction l with
  | nil => intro b y h; cases h
  | cons z l ih =>
    intro b y h hl
    rw [List.foldl_cons]
    rcases List.mem_cons.1 h with rfl | h
    · refine foldl_mono l _ _ ?_
      unfold put
      rw [getB_set, if_pos ⟨rfl, hl⟩]
    · exact ih _ y h (by unfold put; rw [List.length_set]; exact hl)
theorem step_mono (m : List N) (b : List Bool) (i y : Nat) (h : b.getD y false = true) : (ReachK.step m b i).getD y false = true := by
  unfold ReachK.step
  split
  · exact foldl_mono _ _ _ h
  · exact h
theorem run_mono (m : List N) : ∀ (c : Nat) (b : List Bool) (y : Nat), b.getD y false = true → (run m c b).getD y false = true
  | 0, b, y, h => h
  | c + 1, b, y, h => run_mono m c _ y (step_mono m b c y h)
theorem run_closed {m : List N} (hf : Fit m) : ∀ (c : Nat) (b : List Bool), c ≤ m.length → b.length = m.length → ∀ i, i < c → (run m c b).getD i false = true → ∀ y ∈ kidsOf m i, (run m c b).getD y.toNat false = true
  | 0, b, hc, hb, i, hi, h, y, hy => absurd hi (Nat.not_lt_zero i)
  | c + 1, b, hc, hb, i, hi, h, y, hy => by
    have e : run m (c + 1) b = run m c (ReachK.step m b c) := rfl
    rw [e] at h ⊢
    by_cases hic : i < c
    · exact run_closed hf c _ (by omega) (by rw [step_len]; exact hb) i hic h y hy
    · obtain rfl : i = c := by omega
      rw [run_get hf i _ (by omega) i (Nat.le_refl _), step_get hf b i (by omega) i (Nat.le_refl _)] at h
      refine run_mono m i _ _ ?_
      unfold ReachK.step
      rw [if_pos h]
      have hy2 := (hf i (by omega)).2 y hy
      exact foldl_self _ _ _ hy (by omega)
theorem root_mono (b : List Bool) (z : Int) (y : Nat) (h : b.getD y false = true) : (rootPut b z).getD y false = true := by
  unfold rootPut
  split
  · exact put_mono _ _ _ h
  · exact h
theorem roots_mono (l : List Int) : ∀ (b : List Bool) (y : Nat), b.getD y false = true → (l.foldl rootPut b).getD y false = true := by
  induction l with
  | nil => intro b y h; exact h
  | cons z l ih => intro b y h; exact ih _ y (root_mono b z y h)
theorem roots_self (l : List Int) : ∀ (b : List Bool) (y : Int), y ∈ l → 0 ≤ y → y.toNat < b.length → (l.foldl rootPut b).getD y.toNat false = true := by
  induction l with
  | nil => intro b y h; cases h
  | cons z l ih =>
    intro b y h h0 hl
    rw [List.foldl_cons]
    rcases List.mem_cons.1 h with rfl | h
    · refine roots_mono l _ _ ?_
      unfold rootPut put
      rw [if_pos h0, getB_set, if_pos ⟨rfl, hl⟩]
    · exact ih _ y h h0 (by rw [root_len]; exact hl)
/-! Both sides' lists -/
theorem mp_ev {β : Type} (g : Nat → Int → Option β) (h : Int → β) : ∀ l : List Int, (∀ x ∈ l, Ev (fun k => g k x) (h x)) → Ev (fun k => impl_Compact.mp (g k) l) (l.map h)
  | [], _ => Ev.now _
  | x :: l, hx => Ev.bind (hx x (List.mem_cons_self)) (Ev.bind (mp_ev g h l (fun y hy => hx y (List.mem_cons_of_mem _ hy))) (Ev.now _))
theorem mp_is {β : Type} (g : Int → Option β) (h : Int → β) : ∀ l : List Int, (∀ x ∈ l, g x = some (h x)) → impl_Compact.mp g l = some (l.map h)
  | [], _ => rfl
  | x :: l, hx => by
    rw [impl_Compact.mp, hx x List.mem_cons_self, Option.bind_some, mp_is g h l (fun y hy => hx y (List.mem_cons_of_mem _ hy))]
    rfl
def nodeOf (m : List N) (B : List Bool) (i : Int) : N := ⟨(m.getD i.toNat z58).f0, (m.getD i.toNat z58).f1, (m.getD i.toNat z58).f2, (m.getD i.toNat z58).f3.map (pos B)⟩
def idOf (B : List Bool) (r : Int) : Int := if r < 0 then -1 else pos B r
/-- What the marks say. -/
structure Marks (m : List N) (rs : List Int) (B : List Bool) : Prop where
  len : B.length = m.length
  small : m.length ≤ 1000
  fit : Fit m
  roots : Roots m.length rs
  kid : ∀ i : Nat, i < m.length → B.getD i false = true → ∀ y ∈ kidsOf m i, B.getD y.toNat false = true
  root : ∀ y ∈ rs, 0 ≤ y → B.getD y.toNat false = true
theorem marks_of {m : List N} {rs : List Int} {B : List Bool} (h1 : B.length = m.length) (h2 : m.length ≤ 1000) (hf : Fit m) (hr : Roots m.length rs) (hB : B = run m m.length (rs.foldl rootPut (List.replicate m.length false))) : Marks m rs B := by
  have hl : ∀ (l : List Int) (b : List Bool), (l.foldl rootPut b).length = b.length := by
    intro l
    induction l with
    | nil => intro b; rfl
    | cons y l ih => intro b; rw [List.foldl_cons, ih, root_len]
  refine ⟨h1, h2, hf, hr, fun i hi h y hy => ?_, fun y hy h0 => ?_⟩
  · rw [hB] at h ⊢
    exact run_closed hf m.length _ (Nat.le_refl _) (by rw [hl]; simp) i hi h y hy
  · rw [hB]
    have := hr y hy
    exact run_mono m _ _ _ (roots_self rs _ y hy h0 (by simp; omega))
theorem impl_side {m : List N} {rs : List Int} {B : List Bool} (M : Marks m rs B) (hs : ∀ x ∈ m, Small x) (hrl : rs.length ≤ 4096) (hre : Ev (fun k => impl_Forest_reached.f k m rs) (told B m.length)) :
    Ev (fun k => impl_Compact.cf k m rs) ((told B m.length).map (nodeOf m B), rs.map (idOf B)) := by
  unfold impl_Compact.cf
  refine Ev.bind hre ?_
  have hk := told_len B m.length
  have h2 := M.small
  refine Ev.congr (fun _ => if_pos ⟨by omega, by omega⟩) ?_
  refine Ev.bind (mp_ev _ (nodeOf m B) _ (fun i hi => ?_)) (Ev.bind (mp_ev _ (idOf B) _ (fun r hr => ?_)) (Ev.now _))
  · have hb := told_bound B _ i hi
    have ht := told_mem B _ i hi
    unfold impl_Compact.nd
    refine Ev.congr (fun _ => if_pos ⟨hb.1, hb.2⟩) ?_
    have hsm : Small (m.getD i.toNat z58) := by
      rw [List.getD_eq_getElem?_getD, List.getElem?_eq_getElem (by omega)]
      exact hs _ (List.getElem_mem (by omega))
    obtain ⟨s1, s2, s3⟩ := hsm
    have hcp : impl_copyNode.f (rd_T58 m i).f0 (rd_T58 m i).f1 (rd_T58 m i).f2 (rd_T58 m i).f3 = some ((m.getD i.toNat z58).f0, (m.getD i.toNat z58).f1, (m.getD i.toNat z58).f2, (m.getD i.toNat z58).f3) := by
      unfold impl_copyNode.f slices_Clone_int_int.f slices_Clone_string_string.f rd_T58
      rw [if_pos (by omega), Option.bind_some, if_pos (by omega), Option.bind_some, if_pos (by omega), Option.bind_some]
    refine Ev.bind (a := _) (Ev.congr (fun _ => hcp) (Ev.now _)) ?_
    refine Ev.bind (mp_ev _ (pos B) _ (fun y hy => ?_)) (Ev.now _)
    have hy2 := (M.fit i.toNat (by omega)).2 y hy
    exact search B m.length M.small y hy2.1 (by omega) (M.kid i.toNat (by omega) ht y hy)
  · have := M.roots r hr
    unfold impl_Compact.id idOf
    by_cases h0 : r = -1
    · rw [if_pos (by omega : r < 0)]
      exact Ev.congr (fun _ => by rw [if_pos h0, h0]) (Ev.now _)
    · rw [if_neg (by omega : ¬ r < 0)]
      exact Ev.congr (fun _ => if_neg h0) (search B m.length M.small r (by omega) this.2 (M.root r hr (by omega)))
def places (B : List Bool) (n : Nat) : List Int := (List.range n).map fun (j : Nat) => ((told B j).length : Int)
theorem pl_is (B : List Bool) (n : Nat) (y : Int) (h0 : 0 ≤ y) (h1 : y < (n : Int)) : spec_Compact.pl (places B n) y = some (pos B y) := by
  unfold spec_Compact.pl places
  rw [if_pos ⟨h0, by simpa using h1⟩, List.getD_eq_getElem?_getD, List.getElem?_map, List.getElem?_range (by omega)]
  rfl
theorem go_is {m : List N} {rs : List Int} {B : List Bool} (M : Marks m rs B) (hs : ∀ x ∈ m, Small x) : ∀ (d i : Nat), i + d = m.length →
    spec_Compact.go m i (B.drop i) (places B i) ((told B i).map (nodeOf m B)) = some (places B m.length, (told B m.length).map (nodeOf m B)) := by
  intro d
  induction d with
  | zero =>
    intro i hi
    obtain rfl : i = m.length := by omega
    rw [List.drop_of_length_le (by rw [M.len]; exact Nat.le_refl _), spec_Compact.go.eq_1]
  | succ d ih =>
    intro i hi
    have hpl : places B i ++ [(((told B i).map (nodeOf m B)).length : Int)] = places B (i + 1) := by
      unfold places
      rw [List.range_succ, List.map_append, List.length_map]
      rfl
    have hd : B.drop i = B.getD i false :: B.drop (i + 1) := by
      have hl : i < B.length := by rw [M.len]; omega
      rw [List.drop_eq_getElem_cons hl, List.getD_eq_getElem?_getD, List.getElem?_eq_getElem hl]
      rfl
    rw [hd, spec_Compact.go.eq_2, hpl]
    have ih' := ih (i + 1) (by omega)
    rw [told_next] at ih'
    by_cases hb : B.getD i false = true
    · rw [if_pos hb] at ih'
      rw [if_pos hb]
      have hsm : Small (m.getD i z58) := by
        rw [List.getD_eq_getElem?_getD, List.getElem?_eq_getElem (by omega)]
        exact hs _ (List.getElem_mem (by omega))
      rw [rdM, if_pos ⟨by omega, by have := hsm.2.2; omega⟩]
      rw [mp_is (spec_Compact.pl (places B (i + 1))) (pos B) (m.getD i z58).f3 (fun y hy => pl_is B (i + 1) y ((M.fit i (by omega)).2 y hy).1 (by have := ((M.fit i (by omega)).2 y hy).2; omega)), Option.bind_some]
      rw [List.map_append] at ih'
      exact ih'
    · rw [if_neg hb] at ih'
      rw [if_neg hb]
      exact ih'
theorem spec_side {m : List N} {rs : List Int} {B : List Bool} (M : Marks m rs B) (hs : ∀ x ∈ m, Small x) (hrl : rs.length ≤ 4096) (hm : Ev (fun k => spec_l05Marks.f k m rs) B) :
    Ev (fun k => spec_Compact.cf k m rs) ((told B m.length).map (nodeOf m B), rs.map (idOf B)) := by
  unfold spec_Compact.cf
  refine Ev.bind hm ?_
  have h2 := M.small
  have h3 := M.len
  refine Ev.congr (fun _ => if_pos ⟨by omega, by omega⟩) ?_
  have hg := go_is M hs m.length 0 (by omega)
  rw [List.drop_zero] at hg
  refine Ev.bind (Ev.congr (fun _ => hg) (Ev.now _)) ?_
  refine Ev.bind (Ev.congr (fun _ => mp_is _ (idOf B) _ (fun r hr => ?_)) (Ev.now _)) (Ev.now _)
  have := M.roots r hr
  unfold spec_Compact.id idOf
  by_cases h0 : r < 0
  · rw [if_pos h0, if_pos h0]
  · rw [if_neg h0, if_neg h0]
    exact pl_is B m.length r (by omega) this.2
end Go.Proofs.Ytcefdpjlpjgaiaa.CompK
