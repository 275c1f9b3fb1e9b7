/- For all trees within the law's size the program's TreeSize answers what the reference's answers, and the tree is unchanged; no condition. -/
import Derived.Test.YtgbiclpicofgmaaXOpenFnExactTreeSize
import Derived.Test.YtgbiclpicofgmaaAid
namespace Go.Proofs.Ytgbiclpicofgmaa.fnExactTreeSize.Pure
set_option maxRecDepth 100000
open Go Go.RowKit Go.Proofs.Ytgbiclpicofgmaa.XT Go.Proofs.YtgbiclpicofgmaaW.PrintWords Go.Proofs.YtgbiclpicofgmaaW.PrintLast Go.Proofs.YtgbiclpicofgmaaW.PrintMore Go.Proofs.Ytgbiclpicofgmaa.Opn Go.Proofs.Ytgbiclpicofgmaa.Aid
set_option linter.unusedVariables false
set_option linter.unusedSimpArgs false

theorem ind {P : S26 → Prop} (h : ∀ x : S26, (∀ y ∈ x.f5, P y) → P x) : ∀ x, P x := by
  have key : ∀ m : Nat, ∀ x : S26, SizeOf.sizeOf x ≤ m → P x := by
    intro m
    induction m with
    | zero => intro x hx; cases x; simp at hx
    | succ m ih =>
      intro x hx
      refine h x fun y hy => ih y ?_
      have := List.sizeOf_lt_of_mem hy
      cases x
      simp at hx this
      omega
  exact fun x => key _ x (Nat.le_refl _)
theorem next_ {i n : Nat} (h : i < n) (hn : n ≤ 1048576) : wrap64 ((i : Int) + 1) = ((i + 1 : Nat) : Int) := by
  rw [wrap_id (by omega) (by omega)]
  omega
def tup (y : S32) : Int × Int × ByteArray × ByteArray × Int × Int × ByteArray × (List (S32)) := (y.f0, y.f1, y.f2, y.f3, y.f4.f0, y.f4.f1, y.f4.f2, y.f5)
theorem tup_eta (y : S32) : (⟨(tup y).1, (tup y).2.1, (tup y).2.2.1, (tup y).2.2.2.1, (⟨(tup y).2.2.2.2.1, (tup y).2.2.2.2.2.1, (tup y).2.2.2.2.2.2.1⟩ : S29), (tup y).2.2.2.2.2.2.2⟩ : S32) = y := by
  cases y
  rfl
structure Good (x : S26) (y : S32) (t : Int) (K : Nat) : Prop where
  conv : ∀ k, K ≤ k → laws_toTree.f k x.f0 x.f1 x.f2 x.f3 x.f4.f0 x.f4.f1 x.f4.f2 x.f5 = some (tup y)
  sp : ∀ k, K ≤ k → spec_l10Size.f k y.f0 y.f1 y.f2 y.f3 y.f4.f0 y.f4.f1 y.f4.f2 y.f5 = some t
  im : ∀ k, K ≤ k → impl_TreeSize.f k y.f0 y.f1 y.f2 y.f3 y.f4.f0 y.f4.f1 y.f4.f2 y.f5 = some t
  eq : ∀ k, K ≤ k → laws_eqTree.f k y.f0 y.f1 y.f2 y.f3 y.f4.f0 y.f4.f1 y.f4.f2 y.f5 y.f0 y.f1 y.f2 y.f3 y.f4.f0 y.f4.f1 y.f4.f2 y.f5 = some true
theorem Good.le {x : S26} {y : S32} {t : Int} {K K' : Nat} (h : Good x y t K) (hk : K ≤ K') : Good x y t K' :=
  ⟨fun k g => h.conv k (by omega), fun k g => h.sp k (by omega), fun k g => h.im k (by omega), fun k g => h.eq k (by omega)⟩
theorem goods (xs : List S26) (h : ∀ x ∈ xs, ∃ y t K, Good x y t K) :
    ∃ (ys : List S32) (ts : List Int) (K : Nat), ys.length = xs.length ∧ ts.length = xs.length ∧ ∀ i, i < xs.length → Good (xs.getD i z26) (ys.getD i z32) (ts.getD i 0) K := by
  induction xs with
  | nil => exact ⟨[], [], 0, rfl, rfl, fun i h => absurd h (by simp)⟩
  | cons x xs ih =>
    obtain ⟨ys, ts, K, h1, h2, h3⟩ := ih fun x hx => h x (List.mem_cons_of_mem _ hx)
    obtain ⟨y, t, K', g⟩ := h x (List.mem_cons_self ..)
    refine ⟨y :: ys, t :: ts, max K K', by simp [h1], by simp [h2], fun i hi => ?_⟩
    cases i with
    | zero => exact g.le (Nat.le_max_right ..)
    | succ i => exact (h3 i (by simpa using hi)).le (Nat.le_max_left ..)
theorem set_next {α : Type} (z : α) (ys : List α) (i d : Nat) (h : i + (d + 1) = ys.length) :
    (ys.take i ++ List.replicate (d + 1) z).set i (ys.getD i z) = ys.take (i + 1) ++ List.replicate d z := by
  have hl : (ys.take i).length = i := by simp; omega
  rw [List.set_append_right _ _ (by omega), hl, Nat.sub_self, List.replicate_succ, List.set_cons_zero, List.take_succ_eq_append_getElem (by omega), List.append_assoc]
  have hd : ys.getD i z = ys[i]'(by omega) := by rw [List.getD_eq_getElem?_getD, List.getElem?_eq_getElem (by omega)]; rfl
  rw [hd]
  rfl
theorem rd26 (xs : List S26) (i : Nat) : rd_T26 xs (i : Int) = xs.getD i z26 := by unfold rd_T26; rw [Int.toNat_natCast]
theorem rd32 (xs : List S32) (i : Nat) : rd_T32 xs (i : Int) = xs.getD i z32 := by unfold rd_T32; rw [Int.toNat_natCast]

theorem copies (k : Nat) (xs : List S26) (ys : List S32) (hl : ys.length = xs.length) (hn : xs.length ≤ 1048576)
    (hg : ∀ i, i < xs.length → laws_toTree.f k (xs.getD i z26).f0 (xs.getD i z26).f1 (xs.getD i z26).f2 (xs.getD i z26).f3 (xs.getD i z26).f4.f0 (xs.getD i z26).f4.f1 (xs.getD i z26).f4.f2 (xs.getD i z26).f5 = some (tup (ys.getD i z32))) :
    ∀ (d i : Nat), i + d = xs.length → ∀ j, d < j → laws_toTreeS.l0 (laws_toTree.f k) j xs (ys.take i ++ List.replicate d z32) (i : Int) = some ys := by
  intro d
  induction d with
  | zero =>
    intro i hi j hj
    cases j with
    | zero => omega
    | succ j =>
      rw [laws_toTreeS.l0, if_neg (by omega), List.take_of_length_le (by omega)]
      simp
  | succ d ih =>
    intro i hi j hj
    cases j with
    | zero => omega
    | succ j =>
      have hlen : (ys.take i ++ List.replicate (d + 1) z32).length = xs.length := by simp; omega
      rw [laws_toTreeS.l0, if_pos (by omega), if_pos (by omega), rd26, hg i (by omega), Option.bind_some, if_pos (by rw [hlen]; omega), next_ (n := xs.length) (by omega) hn, Int.toNat_natCast]
      have hs := set_next z32 ys i d (by omega)
      have e := tup_eta (ys.getD i z32)
      rw [e, hs]
      exact ih (i + 1) (by omega) j (by omega)
theorem likes (k : Nat) (ys : List S32) (hn : ys.length ≤ 1048576)
    (hg : ∀ i, i < ys.length → laws_eqTree.f k (ys.getD i z32).f0 (ys.getD i z32).f1 (ys.getD i z32).f2 (ys.getD i z32).f3 (ys.getD i z32).f4.f0 (ys.getD i z32).f4.f1 (ys.getD i z32).f4.f2 (ys.getD i z32).f5 (ys.getD i z32).f0 (ys.getD i z32).f1 (ys.getD i z32).f2 (ys.getD i z32).f3 (ys.getD i z32).f4.f0 (ys.getD i z32).f4.f1 (ys.getD i z32).f4.f2 (ys.getD i z32).f5 = some true) :
    ∀ (d i : Nat), i + d = ys.length → ∀ j, d < j → laws_eqTreeS.l0 (laws_eqTree.f k) j ys ys (i : Int) = some true := by
  intro d
  induction d with
  | zero =>
    intro i hi j hj
    cases j with
    | zero => omega
    | succ j => rw [laws_eqTreeS.l0, if_neg (by omega)]
  | succ d ih =>
    intro i hi j hj
    cases j with
    | zero => omega
    | succ j =>
      rw [laws_eqTreeS.l0, if_pos (by omega), if_pos (by omega), if_pos (by omega), rd32, hg i (by omega), Option.bind_some, if_pos rfl, next_ (n := ys.length) (by omega) hn]
      exact ih (i + 1) (by omega) j (by omega)
def fo (a : Int) (l : List Int) : Int := l.foldl (fun a t => wrap64 (a + t)) a
theorem fo_next (a : Int) (ts : List Int) (i : Nat) (h : i < ts.length) : fo a (ts.drop i) = fo (wrap64 (a + ts.getD i 0)) (ts.drop (i + 1)) := by
  rw [List.drop_eq_getElem_cons h, List.getD_eq_getElem?_getD, List.getElem?_eq_getElem h]
  rfl
theorem impls (K : Nat) (ys : List S32) (ts : List Int) (hl : ts.length = ys.length) (hn : ys.length ≤ 1048576)
    (hg : ∀ i, i < ys.length → ∀ k, K ≤ k → impl_TreeSize.f k (ys.getD i z32).f0 (ys.getD i z32).f1 (ys.getD i z32).f2 (ys.getD i z32).f3 (ys.getD i z32).f4.f0 (ys.getD i z32).f4.f1 (ys.getD i z32).f4.f2 (ys.getD i z32).f5 = some (ts.getD i 0)) :
    ∀ (d i : Nat), i + d = ys.length → ∀ a k, K + d < k → impl_TreeSize.l0 k a ys (ys.length : Int) (i : Int) = some (fo a (ts.drop i)) := by
  intro d
  induction d with
  | zero =>
    intro i hi a k hk
    cases k with
    | zero => omega
    | succ k =>
      rw [impl_TreeSize.l0, if_neg (by omega), List.drop_of_length_le (by omega)]
      rfl
  | succ d ih =>
    intro i hi a k hk
    cases k with
    | zero => omega
    | succ k =>
      rw [impl_TreeSize.l0, if_pos (by omega), if_pos (by omega), if_pos (by omega), rd32, hg i (by omega) k (by omega), Option.bind_some, next_ (n := ys.length) (by omega) hn, fo_next a ts i (by omega)]
      exact ih (i + 1) (by omega) _ k (by omega)
theorem specs (K : Nat) (ys : List S32) (ts : List Int) (hl : ts.length = ys.length) (hn : ys.length ≤ 1048576) (b0 b1 : Int) (b2 b3 : ByteArray) (b4 b5 : Int) (b6 : ByteArray)
    (hg : ∀ i, i < ys.length → ∀ k, K ≤ k → spec_l10Size.f k (ys.getD i z32).f0 (ys.getD i z32).f1 (ys.getD i z32).f2 (ys.getD i z32).f3 (ys.getD i z32).f4.f0 (ys.getD i z32).f4.f1 (ys.getD i z32).f4.f2 (ys.getD i z32).f5 = some (ts.getD i 0)) :
    ∀ (d i : Nat), i + d = ys.length → ∀ a k, K + d < k → spec_l10Size.l0 k a (i : Int) b0 b1 b2 b3 b4 b5 b6 ys = some (fo a (ts.drop i)) := by
  intro d
  induction d with
  | zero =>
    intro i hi a k hk
    cases k with
    | zero => omega
    | succ k =>
      rw [spec_l10Size.l0, if_neg (by omega), List.drop_of_length_le (by omega)]
      rfl
  | succ d ih =>
    intro i hi a k hk
    cases k with
    | zero => omega
    | succ k =>
      rw [spec_l10Size.l0, if_pos (by omega), if_pos (by omega), rd32, hg i (by omega) k (by omega), Option.bind_some, next_ (n := ys.length) (by omega) hn, fo_next a ts i (by omega)]
      exact ih (i + 1) (by omega) _ k (by omega)

theorem good (x : S26) (hn : x.f5.length ≤ 1048576) (h : ∀ y ∈ x.f5, ∃ y' t K, Good y y' t K) : ∃ y t K, Good x y t K := by
  obtain ⟨ys, ts, K, h1, h2, h3⟩ := goods x.f5 h
  refine ⟨⟨x.f0, x.f1, x.f2, x.f3, ⟨x.f4.f0, x.f4.f1, x.f4.f2⟩, ys⟩, fo 1 ts, K + ys.length + 2, ?_, ?_, ?_, ?_⟩
  · intro k hk
    cases k with
    | zero => omega
    | succ k =>
      have := copies k x.f5 ys h1 hn (fun i hi => (h3 i hi).conv k (by omega)) x.f5.length 0 (by omega) k (by omega)
      rw [List.take_zero, List.nil_append] at this
      rw [laws_toTree.f.eq_2, laws_toValue.f, Option.bind_some, laws_toTreeS.f, if_pos (by omega), if_pos (by omega), Int.toNat_natCast]
      rw [show ((0 : Nat) : Int) = 0 from rfl] at this
      rw [this]
      rfl
  · intro k hk
    cases k with
    | zero => omega
    | succ k =>
      rw [spec_l10Size.f]
      exact specs K ys ts (by omega) (by omega) _ _ _ _ _ _ _ (fun i hi k hk => (h3 i (by omega)).sp k hk) ys.length 0 (by omega) 1 k (by omega)
  · intro k hk
    cases k with
    | zero => omega
    | succ k =>
      rw [impl_TreeSize.f]
      exact impls K ys ts (by omega) (by omega) (fun i hi k hk => (h3 i (by omega)).im k hk) ys.length 0 (by omega) 1 k (by omega)
  · intro k hk
    cases k with
    | zero => omega
    | succ k =>
      rw [laws_eqTree.f.eq_2, if_pos rfl, if_pos rfl, if_pos rfl, if_pos rfl, laws_eqValue.f, if_pos rfl, if_pos rfl, if_pos rfl, Option.bind_some, if_pos rfl, laws_eqTreeS.f, if_pos rfl]
      have := likes k ys (by omega) (fun i hi => (h3 i (by omega)).eq k (by omega)) ys.length 0 (by omega) k (by omega)
      rw [show ((0 : Nat) : Int) = 0 from rfl] at this
      rw [this]
      rfl

def Sz (K : Nat) (x : S26) : Prop := ∀ a : Int, 0 ≤ a → a ≤ 1048576 → ∃ r : Int, r ≤ a ∧ (0 ≤ r → ∃ y t K', Good x y t K') ∧ ∀ k, K ≤ k → laws_szTree.f k x.f0 x.f1 x.f2 x.f3 x.f4.f0 x.f4.f1 x.f4.f2 x.f5 a = some r
theorem common (xs : List S26) (h : ∀ x ∈ xs, ∃ K, Sz K x) : ∃ K, ∀ x ∈ xs, Sz K x := by
  induction xs with
  | nil => exact ⟨0, fun x hx => absurd hx (by simp)⟩
  | cons x xs ih =>
    obtain ⟨K, h1⟩ := ih fun x hx => h x (List.mem_cons_of_mem _ hx)
    obtain ⟨K', h2⟩ := h x (List.mem_cons_self ..)
    have le : ∀ (K0 : Nat) y, K0 ≤ max K K' → Sz K0 y → Sz (max K K') y := by
      intro K0 y hK hy a h0 h1
      obtain ⟨r, e1, e2, e3⟩ := hy a h0 h1
      exact ⟨r, e1, e2, fun k hk => e3 k (by omega)⟩
    refine ⟨max K K', fun y hy => ?_⟩
    rcases List.mem_cons.1 hy with rfl | hy
    · exact le K' _ (Nat.le_max_right ..) h2
    · exact le K _ (Nat.le_max_left ..) (h1 y hy)
theorem sizes (K : Nat) (xs : List S26) (hn : xs.length ≤ 1048576) (hg : ∀ x ∈ xs, Sz K x) :
    ∀ (d i : Nat) (a : Int), i + d = xs.length → 0 ≤ a → a ≤ 1048576 → ∃ r : Int, r ≤ a ∧ (0 ≤ r → ∀ x ∈ xs.drop i, ∃ y t K', Good x y t K') ∧ ∀ k, K ≤ k → ∀ j, d < j → laws_szTreeS.l0 (laws_szTree.f k) j xs a (i : Int) = some r := by
  intro d
  induction d with
  | zero =>
    intro i a hi h0 h1
    refine ⟨a, Int.le_refl _, fun _ x hx => ?_, fun k hk j hj => ?_⟩
    · rw [List.drop_of_length_le (by omega)] at hx
      simp at hx
    · cases j with
      | zero => omega
      | succ j => rw [laws_szTreeS.l0, if_neg (by omega)]
  | succ d ih =>
    intro i a hi h0 h1
    have hlt : i < xs.length := by omega
    have hd : xs.getD i z26 = xs[i] := by rw [List.getD_eq_getElem?_getD, List.getElem?_eq_getElem hlt]; rfl
    obtain ⟨t, e1, e2, e3⟩ := hg xs[i] (List.getElem_mem hlt) a h0 h1
    by_cases ht : t < 0
    · refine ⟨-1, by omega, fun h => by omega, fun k hk j hj => ?_⟩
      cases j with
      | zero => omega
      | succ j => rw [laws_szTreeS.l0, if_pos (by omega), if_pos (by omega), rd26, hd, e3 k hk, Option.bind_some, if_pos ht]
    · obtain ⟨r, g1, g2, g3⟩ := ih (i + 1) t (by omega) (by omega) (by omega)
      refine ⟨r, by omega, fun h x hx => ?_, fun k hk j hj => ?_⟩
      · rw [List.drop_eq_getElem_cons hlt] at hx
        rcases List.mem_cons.1 hx with rfl | hx
        · exact e2 (by omega)
        · exact g2 h x hx
      · cases j with
        | zero => omega
        | succ j =>
          rw [laws_szTreeS.l0, if_pos (by omega), if_pos (by omega), rd26, hd, e3 k hk, Option.bind_some, if_neg ht, next_ (n := xs.length) (by omega) hn]
          exact g3 k hk j (by omega)
theorem sub_ (a s : Int) (h0 : 0 ≤ a) (h1 : a ≤ 1048576) (s0 : 0 ≤ s) (s1 : s ≤ 9223372036854775807) : wrap64 (a - s) = a - s := wrap_id (by omega) (by omega)
theorem size (x : S26) : WfS26 x → ∃ K, Sz K x := by
  refine ind (P := fun x => WfS26 x → ∃ K, Sz K x) (fun x ih hx => ?_) x
  obtain ⟨_, _, _, w2, w3, w4, w5, w6⟩ := hx
  obtain ⟨K, hK⟩ := common x.f5 fun y hy => ih y hy (w6 y hy)
  have s2 : (x.f2.size : Int) ≤ 9223372036854775807 := by have : x.f2.size ≤ maxLen := w2; simp only [maxLen] at this; omega
  have s3 : (x.f3.size : Int) ≤ 9223372036854775807 := by have : x.f3.size ≤ maxLen := w3; simp only [maxLen] at this; omega
  have s4 : (x.f4.f2.size : Int) ≤ 9223372036854775807 := by have : x.f4.f2.size ≤ maxLen := w4.2.2; simp only [maxLen] at this; omega
  have s5 : (x.f5.length : Int) ≤ 9223372036854775807 := by simp only [maxLen] at w5; omega
  refine ⟨K + x.f5.length + 2, fun a h0 h1 => ?_⟩
  have q2 := sub_ a (x.f2.size : Int) h0 h1 (by omega) s2
  by_cases c2 : a - (x.f2.size : Int) < 0
  · refine ⟨-1, by omega, fun h => by omega, fun k hk => ?_⟩
    cases k with
    | zero => omega
    | succ k => rw [laws_szTree.f.eq_2, q2, if_pos c2]
  have q3 := sub_ (a - (x.f2.size : Int)) (x.f3.size : Int) (by omega) (by omega) (by omega) s3
  by_cases c3 : a - (x.f2.size : Int) - (x.f3.size : Int) < 0
  · refine ⟨-1, by omega, fun h => by omega, fun k hk => ?_⟩
    cases k with
    | zero => omega
    | succ k => rw [laws_szTree.f.eq_2, q2, if_neg c2, q3, if_pos c3]
  have q4 := sub_ (a - (x.f2.size : Int) - (x.f3.size : Int)) (x.f4.f2.size : Int) (by omega) (by omega) (by omega) s4
  by_cases c4 : a - (x.f2.size : Int) - (x.f3.size : Int) - (x.f4.f2.size : Int) < 0
  · refine ⟨-1, by omega, fun h => by omega, fun k hk => ?_⟩
    cases k with
    | zero => omega
    | succ k => rw [laws_szTree.f.eq_2, q2, if_neg c2, q3, if_neg c3, laws_szValue.f, q4, if_pos c4, Option.bind_some, if_pos (by omega)]
  have q5 := sub_ (a - (x.f2.size : Int) - (x.f3.size : Int) - (x.f4.f2.size : Int)) (x.f5.length : Int) (by omega) (by omega) (by omega) s5
  by_cases c5 : a - (x.f2.size : Int) - (x.f3.size : Int) - (x.f4.f2.size : Int) - (x.f5.length : Int) < 0
  · refine ⟨-1, by omega, fun h => by omega, fun k hk => ?_⟩
    cases k with
    | zero => omega
    | succ k => rw [laws_szTree.f.eq_2, q2, if_neg c2, q3, if_neg c3, laws_szValue.f, q4, if_neg c4, Option.bind_some, if_neg c4, laws_szTreeS.f, q5, if_pos c5, Option.bind_some, if_pos (by omega)]
  obtain ⟨r, g1, g2, g3⟩ := sizes K x.f5 (by omega) hK x.f5.length 0 (a - (x.f2.size : Int) - (x.f3.size : Int) - (x.f4.f2.size : Int) - (x.f5.length : Int)) (by omega) (by omega) (by omega)
  have hrun : ∀ k, K + x.f5.length + 2 ≤ k → laws_szTree.f k x.f0 x.f1 x.f2 x.f3 x.f4.f0 x.f4.f1 x.f4.f2 x.f5 a = if r < 0 then some (-1) else some r := by
    intro k hk
    cases k with
    | zero => omega
    | succ k =>
      have := g3 k (by omega) k (by omega)
      rw [show ((0 : Nat) : Int) = 0 from rfl] at this
      rw [laws_szTree.f.eq_2, q2, if_neg c2, q3, if_neg c3, laws_szValue.f, q4, if_neg c4, Option.bind_some, if_neg c4, laws_szTreeS.f, q5, if_neg c5, this, Option.bind_some]
  by_cases hr : r < 0
  · exact ⟨-1, by omega, fun h => by omega, fun k hk => by rw [hrun k hk, if_pos hr]⟩
  · exact ⟨r, by omega, fun h => good x (by omega) (g2 h), fun k hk => by rw [hrun k hk, if_neg hr]⟩

theorem FnExactTreeSize : Pure := by
  intro x hx
  obtain ⟨K, hK⟩ := size x hx
  obtain ⟨r, h1, h2, h3⟩ := hK 1048576 (by omega) (by omega)
  by_cases hr : r < 0
  · exact ⟨K, by rw [laws_FnExactTreeSize.f, h3 K (Nat.le_refl _), Option.bind_some, if_pos hr]⟩
  obtain ⟨y, t, K', g⟩ := h2 (by omega)
  refine ⟨max K K', ?_⟩
  have a1 := g.conv (max K K') (Nat.le_max_right ..)
  have a2 := g.sp (max K K') (Nat.le_max_right ..)
  have a3 := g.im (max K K') (Nat.le_max_right ..)
  have a4 := g.eq (max K K') (Nat.le_max_right ..)
  rw [laws_FnExactTreeSize.f, h3 _ (Nat.le_max_left ..), Option.bind_some, if_neg hr, a1, Option.bind_some, spec_TreeSize.f]
  simp only [tup]
  rw [a2, Option.bind_some, Option.bind_some, Option.bind_some, a3, Option.bind_some, if_pos rfl, Option.bind_some, a4]
  rfl

end Go.Proofs.Ytgbiclpicofgmaa.fnExactTreeSize.Pure
