/- Sizes, copies and likeness of forests, and a forest's test on both sides; plain lemmas. -/
import Derived.Test.YtcefdpjlpjgaiaaXK1
import Derived.Test.YtcefdpjlpjgaiaaXK2
import Derived.Test.YtcefdpjlpjgaiaaXK3
import Derived.Test.YtcefdpjlpjgaiaaXK4
import Derived.Test.YtcefdpjlpjgaiaaXK5
import Derived.Test.YtcefdpjlpjgaiaaXK6
import Derived.Test.YtcefdpjlpjgaiaaXK7
import Derived.Test.YtcefdpjlpjgaiaaXK8
import Derived.Test.YtcefdpjlpjgaiaaXK9
import Derived.Test.YtcefdpjlpjgaiaaXK10
import Derived.Test.YtcefdpjlpjgaiaaXK11
import Derived.Test.YtcefdpjlpjgaiaaXKHnodeOK
import Derived.Test.YtcefdpjlpjgaiaaXKHrootsCode
import Derived.Test.YtcefdpjlpjgaiaaLoops
namespace Go.Proofs.Ytcefdpjlpjgaiaa.TreeK
open Go Go.RowKit Go.Proofs.Ytcefdpjlpjgaiaa.XK Go.Proofs.YtcefdpjlpjgaiaaW.PrintWords Go.Proofs.YtcefdpjlpjgaiaaW.PrintLast Go.Proofs.YtcefdpjlpjgaiaaW.PrintMore Go.Proofs.Ytcefdpjlpjgaiaa.Aid Go.Proofs.Ytcefdpjlpjgaiaa.Loops Go.Proofs.Ytcefdpjlpjgaiaa.Xtra
set_option linter.unusedVariables false

abbrev N0 := S55
abbrev N := S58
def conv (x : N0) : N := ⟨x.f0, x.f1, x.f2, x.f3⟩
theorem rdN0 (xs : List N0) (i : Nat) (h : i < xs.length) : rd_T55 xs (i : Int) = xs[i] := by
  simp [rd_T55, List.getD_eq_getElem?_getD, List.getElem?_eq_getElem h]
theorem rdN (xs : List N) (i : Nat) (h : i < xs.length) : rd_T58 xs (i : Int) = xs[i] := by
  simp [rd_T58, List.getD_eq_getElem?_getD, List.getElem?_eq_getElem h]
theorem rdS (xs : List ByteArray) (i : Nat) (h : i < xs.length) : rdOf ByteArray.empty xs (i : Int) = xs[i] := by
  simp [rdOf, List.getD_eq_getElem?_getD, List.getElem?_eq_getElem h]
theorem rdI (xs : List Int) (i : Nat) (h : i < xs.length) : rd xs (i : Int) = xs[i] := by
  simp [rd, List.getD_eq_getElem?_getD, List.getElem?_eq_getElem h]

/-- Sizes, and what a budget that is not spent says of every element. -/
theorem szE2 (F : Nat → Int → Int → Option Int) (n : Nat) (g : Nat → Int → Int → Option Int) (M : Int) (P : Nat → Prop) (hn : n ≤ 140737488355328)
    (hg : ∀ i, i < n → ∀ a : Int, 0 ≤ a → a ≤ M → ∃ r, Ev (fun k => g k a (i : Int)) r ∧ r ≤ a ∧ (0 ≤ r → P i))
    (hF : ∀ k a i, F (k + 1) a i = if i < (n : Int) then (if 0 ≤ i then ((g k a i).bind fun t => if t < 0 then some (-1) else F k t (wrap64 (i + 1))) else none) else some a) :
    ∀ a : Int, 0 ≤ a → a ≤ M → ∃ r, Ev (fun k => F k a 0) r ∧ r ≤ a ∧ (0 ≤ r → ∀ i, i < n → P i) := by
  have key : ∀ (d i : Nat) (a : Int), i + d = n → 0 ≤ a → a ≤ M → ∃ r, Ev (fun k => F k a (i : Int)) r ∧ r ≤ a ∧ (0 ≤ r → ∀ j, i ≤ j → j < n → P j) := by
    intro d
    induction d with
    | zero =>
      intro i a hi h0 h1
      refine ⟨a, Ev.step (f := fun _ => some a) (fun k => ?_) (Ev.now _), Int.le_refl _, fun _ j h h' => absurd h' (by omega)⟩
      rw [hF, if_neg (by omega)]
    | succ d ih =>
      intro i a hi h0 h1
      obtain ⟨t, ht, hta, hp⟩ := hg i (by omega) a h0 h1
      by_cases hneg : t < 0
      · refine ⟨-1, Ev.step (f := fun k => (g k a (i : Int)).bind fun t => if t < 0 then some (-1) else F k t (wrap64 ((i : Int) + 1))) (fun k => ?_) (Ev.bind ht (Ev.congr (fun k => if_pos hneg) (Ev.now _))), by omega, by omega⟩
        rw [hF, if_pos (by omega), if_pos (by omega)]
      · obtain ⟨r, hr, hra, hrp⟩ := ih (i + 1) t (by omega) (by omega) (by omega)
        refine ⟨r, Ev.step (f := fun k => (g k a (i : Int)).bind fun t => if t < 0 then some (-1) else F k t (wrap64 ((i : Int) + 1))) (fun k => ?_) (Ev.bind ht (Ev.congr (fun k => if_neg hneg) ?_)), by omega, fun h j hj hj' => ?_⟩
        · rw [hF, if_pos (by omega), if_pos (by omega)]
        · rw [next_ (n := n) (by omega) hn]
          exact hr
        · by_cases e : j = i
          · subst e
            exact hp (by omega)
          · exact hrp h j (by omega) hj'
  intro a h0 h1
  obtain ⟨r, h, h', h''⟩ := key n 0 a (by omega) h0 h1
  exact ⟨r, h, h', fun h j hj => h'' h j (Nat.zero_le _) hj⟩
theorem texts_size (xs : List ByteArray) (hl : xs.length ≤ 9223372036854775807) (hw : ∀ x ∈ xs, x.size ≤ 9223372036854775807) (a : Int) (h0 : 0 ≤ a) (h1 : a ≤ 1048576) :
    ∃ r, Ev (fun k => laws_szStringS.f k xs a) r ∧ r ≤ a ∧ (0 ≤ r → xs.length ≤ 1048576) :=
  szL xs.length hl _ (fun k a => laws_szStringS.l0 k xs a 0) (fun hs => szP (fun k a i => laws_szStringS.l0 k xs a i) xs.length (fun i => ((rdOf ByteArray.empty xs i).size : Int)) (by omega)
    (fun i hi => by rw [rdS xs i hi]; have := hw xs[i] (List.getElem_mem hi); omega) (fun _ _ _ => rfl)) (fun _ _ => rfl) a h0 h1
theorem ints_size (xs : List Int) (hl : xs.length ≤ 9223372036854775807) (a : Int) (h0 : 0 ≤ a) (h1 : a ≤ 1048576) :
    ∃ r, laws_szIntS.f xs a = some r ∧ r ≤ a ∧ (0 ≤ r → xs.length ≤ 1048576) := by
  unfold laws_szIntS.f
  rw [sz_text a xs.length h0 h1 (by omega) (by omega)]
  by_cases hn : a - (xs.length : Int) < 0
  · exact ⟨-1, if_pos hn, by omega, by omega⟩
  · exact ⟨_, if_neg hn, by omega, fun _ => by omega⟩
/-- What is known of nodes that came in; what is known of them behind the size. -/
def FitN (x : N0) : Prop := (x.f1.length ≤ 9223372036854775807 ∧ ∀ y ∈ x.f1, y.size ≤ 9223372036854775807) ∧ (x.f2.length ≤ 9223372036854775807 ∧ ∀ y ∈ x.f2, y.size ≤ 9223372036854775807) ∧ x.f3.length ≤ 9223372036854775807
def Small (x : N) : Prop := x.f1.length ≤ 1048576 ∧ x.f2.length ≤ 1048576 ∧ x.f3.length ≤ 1048576
theorem node_size (x : N0) (h : FitN x) (a : Int) (h0 : 0 ≤ a) (h1 : a ≤ 1048576) :
    ∃ r, Ev (fun k => laws_szNode.f k x.f0 x.f1 x.f2 x.f3 a) r ∧ r ≤ a ∧ (0 ≤ r → Small (conv x)) := by
  unfold laws_szNode.f
  obtain ⟨r, hr, hra, hrl⟩ := texts_size x.f1 h.1.1 h.1.2 a h0 h1
  by_cases hn : r < 0
  · exact ⟨-1, Ev.bind hr (Ev.congr (fun _ => if_pos hn) (Ev.now _)), by omega, by omega⟩
  obtain ⟨s, hs, hsa, hsl⟩ := texts_size x.f2 h.2.1.1 h.2.1.2 r (by omega) (by omega)
  by_cases hn' : s < 0
  · exact ⟨-1, Ev.bind hr (Ev.congr (fun _ => if_neg hn) (Ev.bind hs (Ev.congr (fun _ => if_pos hn') (Ev.now _)))), by omega, by omega⟩
  obtain ⟨t, ht, hta, htl⟩ := ints_size x.f3 h.2.2 s (by omega) (by omega)
  by_cases hn2 : t < 0
  · exact ⟨-1, Ev.bind hr (Ev.congr (fun _ => if_neg hn) (Ev.bind hs (Ev.congr (fun _ => if_neg hn') (Ev.bind (Ev.congr (fun _ => ht) (Ev.now _)) (Ev.congr (fun _ => if_pos hn2) (Ev.now _)))))), by omega, by omega⟩
  · exact ⟨t, Ev.bind hr (Ev.congr (fun _ => if_neg hn) (Ev.bind hs (Ev.congr (fun _ => if_neg hn') (Ev.bind (Ev.congr (fun _ => ht) (Ev.now _)) (Ev.congr (fun _ => if_neg hn2) (Ev.now _)))))), by omega, fun _ => ⟨hrl (by omega), hsl (by omega), htl (by omega)⟩⟩
theorem forest_size (xs : List N0) (hl : xs.length ≤ 9223372036854775807) (hw : ∀ x ∈ xs, FitN x) :
    ∃ r, Ev (fun k => laws_szForest.f k xs 1048576) r ∧ (0 ≤ r → xs.length ≤ 1048576 ∧ ∀ x ∈ xs, Small (conv x)) := by
  have hlen := sz_text 1048576 xs.length (by omega) (by omega) (by omega) (by omega)
  unfold laws_szForest.f
  by_cases hneg : (1048576 : Int) - (xs.length : Int) < 0
  · refine ⟨-1, Ev.bind (a := (-1 : Int)) (Ev.congr (fun k => by unfold laws_szNodeS.f; rw [hlen, if_pos hneg]) (Ev.now _)) (Ev.congr (fun _ => if_pos (by omega)) (Ev.now _)), by omega⟩
  obtain ⟨r, hr, hra, hrp⟩ := szE2 (fun k a i => laws_szNodeS.l0 k xs a i) xs.length (fun k a i => laws_szNode.f k (rd_T55 xs i).f0 (rd_T55 xs i).f1 (rd_T55 xs i).f2 (rd_T55 xs i).f3 a) 1048576 (fun i => Small (conv (xs.getD i z55))) (by omega)
    (fun i hi a h0 h1 => by
      have hg : xs.getD i z55 = xs[i] := by simp [List.getD_eq_getElem?_getD, List.getElem?_eq_getElem hi]
      rw [rdN0 xs i hi, hg]
      exact node_size xs[i] (hw xs[i] (List.getElem_mem hi)) a h0 h1) (fun _ _ _ => rfl) (1048576 - (xs.length : Int)) (by omega) (by omega)
  have hr' : Ev (fun k => laws_szNodeS.f k xs 1048576) r := Ev.congr (fun k => by unfold laws_szNodeS.f; rw [hlen, if_neg hneg]) hr
  by_cases hn : r < 0
  · exact ⟨-1, Ev.bind hr' (Ev.congr (fun _ => if_pos hn) (Ev.now _)), by omega⟩
  · refine ⟨r, Ev.bind hr' (Ev.congr (fun _ => if_neg hn) (Ev.now _)), fun h => ⟨by omega, fun x hx => ?_⟩⟩
    obtain ⟨i, hi, rfl⟩ := List.getElem_of_mem hx
    have := hrp h i hi
    simpa [List.getD_eq_getElem?_getD, List.getElem?_eq_getElem hi] using this

/-! Copies, likeness -/
theorem texts_copy (l : List ByteArray) (hl : l.length ≤ 1048576) : Ev (fun k => laws_toStringS.f k l) l := by
  have h := copyE (fun k ys i => laws_toStringS.l0 k l ys i) l id (fun _ i => some (rdOf ByteArray.empty l i)) (⟨#[]⟩ : ByteArray) (by omega) (fun i hi => by rw [rdS l i hi]; exact Ev.now _) (fun _ _ _ => rfl)
  rw [List.map_id] at h
  refine Ev.congr (fun k => ?_) h
  unfold laws_toStringS.f
  rw [if_pos (by omega), if_pos (by omega), Int.toNat_natCast]
theorem ints_copy (xs : List Int) (hl : xs.length ≤ 1048576) : Ev (fun k => laws_toIntS.f k xs) xs := by
  have h := copyE (fun k ys i => laws_toIntS.l0 k xs ys i) xs id (fun _ i => some (rd xs i)) (0 : Int) (by omega) (fun i hi => by rw [rdI xs i hi]; exact Ev.now _) (fun _ _ _ => rfl)
  rw [List.map_id] at h
  refine Ev.congr (fun k => ?_) h
  unfold laws_toIntS.f
  rw [if_pos (by omega), if_pos (by omega), Int.toNat_natCast]
theorem forest_copy (xs : List N0) (hl : xs.length ≤ 1048576) (hx : ∀ x ∈ xs, Small (conv x)) : Ev (fun k => laws_toForest.f k xs) (xs.map conv) := by
  unfold laws_toForest.f
  refine Ev.bind (a := xs.map conv) ?_ (Ev.now _)
  have h := copyE (fun k ys i => laws_toNodeS.l0 k xs ys i) xs conv (fun k i => (laws_toNode.f k (rd_T55 xs i).f0 (rd_T55 xs i).f1 (rd_T55 xs i).f2 (rd_T55 xs i).f3).bind fun b => some ⟨b.1, b.2.1, b.2.2.1, b.2.2.2⟩) z58 (by omega)
    (fun i hi => by
      rw [rdN0 xs i hi]
      have hs := hx _ (List.getElem_mem hi)
      unfold laws_toNode.f
      exact Ev.bind (Ev.bind (texts_copy xs[i].f1 hs.1) (Ev.bind (texts_copy xs[i].f2 hs.2.1) (Ev.bind (ints_copy xs[i].f3 hs.2.2) (Ev.now _)))) (Ev.now _))
    (fun k ys i => by
      simp only [laws_toNodeS.l0]
      cases laws_toNode.f k (rd_T55 xs i).f0 (rd_T55 xs i).f1 (rd_T55 xs i).f2 (rd_T55 xs i).f3 <;> rfl)
  refine Ev.congr (fun k => ?_) h
  unfold laws_toNodeS.f
  rw [if_pos (by omega), if_pos (by omega), Int.toNat_natCast]
theorem texts_same (l : List ByteArray) (hl : l.length ≤ 1048576) : Ev (fun k => laws_eqStringS.f k l l) true := by
  unfold laws_eqStringS.f
  refine Ev.congr (fun k => if_pos rfl) ?_
  exact eqP (fun k i => laws_eqStringS.l0 k l l i) l.length (l.length : Int) (fun i => (rdOf ByteArray.empty l i).toList = (rdOf ByteArray.empty l i).toList) (by omega) rfl (fun _ => rfl) (fun _ _ => rfl)
theorem ints_same (xs : List Int) (hl : xs.length ≤ 1048576) : Ev (fun k => laws_eqIntS.f k xs xs) true := by
  unfold laws_eqIntS.f
  refine Ev.congr (fun k => if_pos rfl) ?_
  exact eqP (fun k i => laws_eqIntS.l0 k xs xs i) xs.length (xs.length : Int) (fun i => rd xs i = rd xs i) (by omega) rfl (fun _ => rfl) (fun _ _ => rfl)
theorem forest_same (m : List N) (hm : m.length ≤ 1048576) (hx : ∀ x ∈ m, Small x) : Ev (fun k => laws_eqForest.f k m m) true := by
  unfold laws_eqForest.f
  refine Ev.bind (a := true) ?_ (Ev.congr (fun _ => if_pos rfl) (Ev.now _))
  unfold laws_eqNodeS.f
  refine Ev.congr (fun k => if_pos rfl) ?_
  exact eqE (fun k i => laws_eqNodeS.l0 k m m i) m.length (m.length : Int) (fun k i => laws_eqNode.f k (rd_T58 m i).f0 (rd_T58 m i).f1 (rd_T58 m i).f2 (rd_T58 m i).f3 (rd_T58 m i).f0 (rd_T58 m i).f1 (rd_T58 m i).f2 (rd_T58 m i).f3) (by omega) rfl
    (fun i hi => by
      rw [rdN m i hi]
      have hs := hx _ (List.getElem_mem hi)
      unfold laws_eqNode.f
      refine Ev.congr (fun _ => by rw [if_neg (by simp)]) ?_
      exact Ev.bind (texts_same _ hs.1) (Ev.congr (fun _ => if_pos rfl) (Ev.bind (texts_same _ hs.2.1) (Ev.congr (fun _ => if_pos rfl) (Ev.bind (ints_same _ hs.2.2) (Ev.congr (fun _ => if_pos rfl) (Ev.now _))))))) (fun _ _ => rfl)

/-! The test -/
def within (x l h : Int) : Bool := if x ≥ l then decide (x ≤ h) else false
theorem in_spec (x l h : Int) : spec_l01In.f x l h = some (within x l h) := by
  unfold spec_l01In.f within
  split <;> rfl
theorem in_impl (x l h : Int) : impl_within.f x l h = some (within x l h) := by
  unfold impl_within.f within
  split <;> rfl
theorem win_is (x l h : Int) : impl_nodeOK.win x l h = within x l h := by
  unfold impl_nodeOK.win
  rw [in_impl]
  rfl
def tail (op : Bool) (l1 l2 : List ByteArray) (l3 : List Int) (i : Int) : Bool :=
  if op = true then ((l2.length : Int) == (l1.length : Int)) && (((l3.length : Int) == 0) && !l2.any impl_nodeOK.p) else ((l2.length : Int) == 0) && (((l3.length : Int) == wrap64 ((l1.length : Int) + 1)) && !l3.any (impl_nodeOK.q i))
def okN (i : Int) (x : N) : Bool := (List.range x.f1.length).all (impl_nodeOK.kr x.f1) && (within (x.f1.length : Int) 1 4 && tail x.f0 x.f1 x.f2 x.f3 i)
theorem node_impl (i : Int) (x : N) : impl_nodeOK.f x.f0 x.f1 x.f2 x.f3 i = some (okN i x) := by
  unfold impl_nodeOK.f okN tail
  rw [win_is]
theorem vals_ev (op : Bool) (l1 l2 : List ByteArray) (l3 : List Int) (h : l2.length ≤ 1048576) : Ev (fun k => spec_l05Node.l1 k 0 op l1 l2 l3) (!l2.any impl_nodeOK.p) := by
  have e := allE (fun k i => spec_l05Node.l1 k i op l1 l2 l3) l2.length (fun i => !impl_nodeOK.p (l2.getD i ByteArray.empty)) true (fun _ i => some (!decide (((rdOf ByteArray.empty l2 i).size : Int) > 200))) (fun _ _ => some true) (by omega)
    (fun i hi => by
      have e0 : (!decide (((rdOf ByteArray.empty l2 (i : Int)).size : Int) > 200)) = !impl_nodeOK.p (l2.getD i ByteArray.empty) := by
        rw [rdS l2 i hi, List.getD_eq_getElem?_getD, List.getElem?_eq_getElem hi]
        unfold impl_nodeOK.p impl_nodeOK_1.f impl_isDatum.f
        rw [Bool.eq_iff_iff]
        simp
      rw [e0]
      exact Ev.now _) (Ev.now _) (fun k i => by
      simp only [spec_l05Node.l1, Option.bind_some]
      by_cases h1 : i < (l2.length : Int)
      · rw [if_pos h1, if_pos h1]
        by_cases h2 : 0 ≤ i
        · rw [if_pos h2, if_pos h2]
          by_cases h3 : ((rdOf ByteArray.empty l2 i).size : Int) > 200
          · rw [if_pos h3, if_neg (by simp [h3])]
          · rw [if_neg h3, if_pos (by simp at h3 ⊢; omega)]
        · rw [if_neg h2, if_neg h2]
      · rw [if_neg h1, if_neg h1])
  rw [Bool.and_true, range_all l2 (fun x => !impl_nodeOK.p x) ByteArray.empty] at e
  rw [List.not_any_eq_all_not]
  exact e
theorem kids_ev (op : Bool) (l1 l2 : List ByteArray) (l3 : List Int) (x : Int) (h : l3.length ≤ 1048576) : Ev (fun k => spec_l05Node.l2 k x 0 op l1 l2 l3) (!l3.any (impl_nodeOK.q x)) := by
  have e := allE (fun k i => spec_l05Node.l2 k x i op l1 l2 l3) l3.length (fun i => !impl_nodeOK.q x (l3.getD i 0)) true (fun _ i => spec_l01In.f (rd l3 i) 0 (wrap64 (x - 1))) (fun _ _ => some true) (by omega)
    (fun i hi => by
      refine Ev.congr (fun _ => ?_) (Ev.now _)
      rw [rdI l3 i hi, in_spec, List.getD_eq_getElem?_getD, List.getElem?_eq_getElem hi]
      unfold impl_nodeOK.q
      rw [win_is]
      simp) (Ev.now _) (fun k i => rfl)
  rw [Bool.and_true, range_all l3 (fun y => !impl_nodeOK.q x y) 0] at e
  rw [List.not_any_eq_all_not]
  exact e
theorem tail_ev (op : Bool) (l1 l2 : List ByteArray) (l3 : List Int) (x : Int) (h2 : l2.length ≤ 1048576) (h3 : l3.length ≤ 1048576) :
    Ev (fun k => if op = true then (if (l2.length : Int) = (l1.length : Int) then (spec_l05Node.j1 k ((l3.length : Int) != 0) op l1 l2 l3) else (spec_l05Node.j1 k true op l1 l2 l3)) else (if (l2.length : Int) = 0 then (spec_l05Node.j3 k x ((l3.length : Int) != (wrap64 ((l1.length : Int) + 1))) op l1 l2 l3) else (spec_l05Node.j3 k x true op l1 l2 l3))) (tail op l1 l2 l3 x) := by
  have jn : Ev (fun k => spec_l05Node.j1 k true op l1 l2 l3) false := Ev.step (f := fun _ => some false) (fun k => by simp only [spec_l05Node.j1, if_true]) (Ev.now _)
  have jn3 : Ev (fun k => spec_l05Node.j3 k x true op l1 l2 l3) false := Ev.step (f := fun _ => some false) (fun k => by simp only [spec_l05Node.j3, if_true]) (Ev.now _)
  have jy : Ev (fun k => spec_l05Node.j1 k false op l1 l2 l3) (!l2.any impl_nodeOK.p) := Ev.step (fun k => by simp only [spec_l05Node.j1, Bool.false_eq_true, if_false]) (vals_ev op l1 l2 l3 h2)
  have jy3 : Ev (fun k => spec_l05Node.j3 k x false op l1 l2 l3) (!l3.any (impl_nodeOK.q x)) := Ev.step (fun k => by simp only [spec_l05Node.j3, Bool.false_eq_true, if_false]) (kids_ev op l1 l2 l3 x h3)
  unfold tail
  cases op with
  | true =>
    rw [if_pos rfl]
    refine Ev.congr (fun _ => if_pos rfl) ?_
    by_cases e : (l2.length : Int) = (l1.length : Int)
    · refine Ev.congr (fun _ => if_pos e) ?_
      rw [e, beq_self_eq_true, Bool.true_and]
      cases hk : ((l3.length : Int) == 0) with
      | true =>
        have : ((l3.length : Int) != 0) = false := by simp only [bne, hk]; rfl
        rw [this, Bool.true_and]
        exact jy
      | false =>
        have : ((l3.length : Int) != 0) = true := by simp only [bne, hk]; rfl
        rw [this, Bool.false_and]
        exact jn
    · refine Ev.congr (fun _ => if_neg e) ?_
      rw [beq_eq_false_iff_ne.2 e, Bool.false_and]
      exact jn
  | false =>
    rw [if_neg (by simp)]
    refine Ev.congr (fun _ => if_neg (by simp)) ?_
    by_cases e : (l2.length : Int) = 0
    · refine Ev.congr (fun _ => if_pos e) ?_
      rw [e, beq_self_eq_true, Bool.true_and]
      cases hk : ((l3.length : Int) == wrap64 ((l1.length : Int) + 1)) with
      | true =>
        have : ((l3.length : Int) != wrap64 ((l1.length : Int) + 1)) = false := by simp only [bne, hk]; rfl
        rw [this, Bool.true_and]
        exact jy3
      | false =>
        have : ((l3.length : Int) != wrap64 ((l1.length : Int) + 1)) = true := by simp only [bne, hk]; rfl
        rw [this, Bool.false_and]
        exact jn3
    · refine Ev.congr (fun _ => if_neg e) ?_
      rw [beq_eq_false_iff_ne.2 e, Bool.false_and]
      exact jn3
theorem node_spec (m : List N) (i : Nat) (hi : i < m.length) (hs : Small m[i]) : Ev (fun k => spec_l05Node.f k m (i : Int)) (okN (i : Int) m[i]) := by
  unfold spec_l05Node.f
  refine Ev.congr (fun _ => by rw [if_pos (by omega), if_pos (by omega), rdN m i hi, in_spec]) ?_
  generalize m[i] = x at hs
  obtain ⟨h1, h2, h3⟩ := hs
  refine Ev.bind (Ev.now _) ?_
  unfold okN
  cases hw : within (x.f1.length : Int) 1 4 with
  | false =>
    rw [Bool.false_and, Bool.and_false]
    exact Ev.congr (fun _ => if_neg (by simp)) (Ev.now _)
  | true =>
    rw [Bool.true_and]
    refine Ev.congr (fun _ => if_pos rfl) ?_
    exact allE (fun k j => spec_l05Node.l0 k (i : Int) j x.f0 x.f1 x.f2 x.f3) x.f1.length (impl_nodeOK.kr x.f1) _ (fun _ j => some (impl_nodeOK.kr x.f1 j.toNat)) (fun k _ => _) (by omega)
      (fun j hj => by rw [Int.toNat_natCast]; exact Ev.now _) (tail_ev x.f0 x.f1 x.f2 x.f3 (i : Int) h2 h3) (fun k j => by
        simp only [spec_l05Node.l0, Option.bind_some]
        by_cases c1 : j < (x.f1.length : Int)
        · rw [if_pos c1, if_pos c1]
          by_cases c2 : 0 ≤ j
          · rw [if_pos c2, if_pos c2]
            obtain ⟨n, rfl⟩ : ∃ n : Nat, j = (n : Int) := ⟨j.toNat, by omega⟩
            have hp : wrap64 ((n : Int) - 1) = (n : Int) - 1 := wrap_id (by omega) (by omega)
            rw [Int.toNat_natCast, hp]
            unfold impl_nodeOK.kr
            by_cases c3 : ((rdOf ByteArray.empty x.f1 (n : Int)).size : Int) > 80
            · rw [if_pos c3, if_neg (by simp [show (80 : Int) < ((rdOf ByteArray.empty x.f1 (n : Int)).size : Int) from c3])]
            · rw [if_neg c3]
              have d3 : decide ((80 : Int) < ((rdOf ByteArray.empty x.f1 (n : Int)).size : Int)) = false := decide_eq_false c3
              rw [d3, Bool.not_false, Bool.true_and]
              by_cases c4 : n = 0
              · rw [if_neg (by omega), if_pos (by simp [c4])]
              · rw [if_pos (by omega), if_pos (by omega), if_pos (by omega), decide_eq_true (show 0 < n by omega), Bool.not_true, Bool.false_or]
          · rw [if_neg c2, if_neg c2]
        · rw [if_neg c1, if_neg c1])
def ok (m : List N) : Bool := (List.range m.length).all (fun i => okN (i : Int) (m.getD i z58)) && decide ((m.length : Int) ≤ 600)
theorem ok_spec (m : List N) (hm : m.length ≤ 1048576) (hx : ∀ x ∈ m, Small x) : Ev (fun k => spec_ForestOK.f k m) (ok m) := by
  unfold spec_ForestOK.f ok
  by_cases h : (m.length : Int) > 600
  · rw [decide_eq_false (by omega), Bool.and_false]
    exact Ev.congr (fun _ => if_pos h) (Ev.now _)
  · refine Ev.congr (fun _ => if_neg h) ?_
    rw [decide_eq_true (by omega)]
    refine allE (fun k i => spec_ForestOK.l0 k i m) m.length _ true (fun k i => if 0 ≤ i then spec_l05Node.f k m i else none) (fun _ _ => some true) (by omega) (fun i hi => ?_) (Ev.now _) (fun k i => ?_)
    · refine Ev.congr (fun _ => if_pos (by omega)) ?_
      have hg : m.getD i z58 = m[i] := by simp [List.getD_eq_getElem?_getD, List.getElem?_eq_getElem hi]
      rw [hg]
      exact node_spec m i hi (hx _ (List.getElem_mem hi))
    · simp only [spec_ForestOK.l0]
      by_cases c1 : i < (m.length : Int)
      · rw [if_pos c1, if_pos c1]
        by_cases c2 : 0 ≤ i
        · rw [if_pos c2, if_pos c2]
        · rw [if_neg c2]
          unfold spec_l05Node.f
          rw [if_neg c2]
          rfl
      · rw [if_neg c1, if_neg c1]
theorem ok_impl (m : List N) (hm : m.length ≤ 1048576) : Ev (fun k => impl_ForestOK.f k m) (ok m) := by
  unfold impl_ForestOK.f ok
  exact allE (fun k i => impl_ForestOK.l0 k m (m.length : Int) i m) m.length _ _ (fun _ i => impl_nodeOK.f (rd_T58 m i).f0 (rd_T58 m i).f1 (rd_T58 m i).f2 (rd_T58 m i).f3 i) (fun _ _ => some (decide ((m.length : Int) ≤ 600))) (by omega)
    (fun i hi => by
      have hg : m.getD i z58 = m[i] := by simp [List.getD_eq_getElem?_getD, List.getElem?_eq_getElem hi]
      rw [hg, rdN m i hi]
      exact Ev.congr (fun _ => node_impl _ _) (Ev.now _)) (Ev.now _) (fun k i => by
      simp only [impl_ForestOK.l0]
      by_cases c1 : i < (m.length : Int)
      · by_cases c2 : 0 ≤ i
        · simp only [if_pos c1, if_pos c2]
        · simp only [if_pos c1, if_neg c2]
      · simp only [if_neg c1])
end Go.Proofs.Ytcefdpjlpjgaiaa.TreeK
