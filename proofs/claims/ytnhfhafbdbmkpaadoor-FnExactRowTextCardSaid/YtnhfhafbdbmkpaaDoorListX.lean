/- A law's own work on lists of values (sizes, copies, likeness), and the rows' test on both sides; plain lemmas. -/
import Derived.Test.YtnhfhafbdbmkpaaDoorXX8
import Derived.Test.YtnhfhafbdbmkpaaDoorAid
namespace Go.Proofs.YtnhfhafbdbmkpaaDoor.ListX
open Go Go.RowKit Go.Proofs.YtnhfhafbdbmkpaaDoor.XX Go.Proofs.YtnhfhafbdbmkpaaDoorW.PrintWords Go.Proofs.YtnhfhafbdbmkpaaDoorW.PrintLast Go.Proofs.YtnhfhafbdbmkpaaDoorW.PrintMore
open Go.Proofs.YtnhfhafbdbmkpaaDoor.Xtra Go.Proofs.YtnhfhafbdbmkpaaDoor.Aid

theorem set_copy {α β : Type} (f : α → β) (z : β) (xs : List α) (i d : Nat) (h : i + (d + 1) = xs.length) :
    ((xs.take i).map f ++ List.replicate (d + 1) z).set i (f (xs[i]'(by omega))) = (xs.take (i + 1)).map f ++ List.replicate d z := by
  have hl : ((xs.take i).map f).length = i := by simp; omega
  rw [List.set_append_right _ _ (by omega), hl, Nat.sub_self, List.replicate_succ, List.set_cons_zero, List.take_succ_eq_append_getElem (by omega), List.map_append, List.append_assoc]
  rfl

def conv (x : S35) : S39 := ⟨x.f0, x.f1, x.f2⟩
theorem rd24 (xs : List S35) (i : Nat) (h : i < xs.length) : rd_T35 xs (i : Int) = xs[i] := by
  simp [rd_T35, List.getD_eq_getElem?_getD, List.getElem?_eq_getElem h]
theorem rd27 (xs : List S39) (i : Nat) (h : i < xs.length) : rd_T39 xs (i : Int) = xs[i] := by
  simp [rd_T39, List.getD_eq_getElem?_getD, List.getElem?_eq_getElem h]

theorem copy_loop (xs : List S35) (hn : xs.length ≤ 8796093022208) : ∀ (d i : Nat), i + d = xs.length →
    Ev (fun k => laws_toValueS.l0 k xs ((xs.take i).map conv ++ List.replicate d z39) (i : Int)) (xs.map conv) := by
  intro d
  induction d with
  | zero =>
    intro i hi
    refine Ev.step (f := fun _ => some (xs.map conv)) (fun k => ?_) (Ev.now _)
    simp only [laws_toValueS.l0]
    rw [if_neg (by omega), List.take_of_length_le (by omega)]
    simp
  | succ d ih =>
    intro i hi
    have hl : ((xs.take i).map conv ++ List.replicate (d + 1) z39).length = xs.length := by simp; omega
    have hr := rd24 xs i (by omega)
    have hs := set_copy conv z39 xs i d hi
    refine Ev.step (fun k => ?_) (ih (i + 1) (by omega))
    simp only [laws_toValueS.l0, laws_toValue.f, Option.bind_some]
    rw [if_pos (by omega), if_pos (by omega), if_pos (by omega), wrap_id (by omega) (by omega), Int.toNat_natCast, hr]
    rw [← hs]
    rfl
theorem copies (xs : List S35) (hn : xs.length ≤ 8796093022208) : Ev (fun k => laws_toValueS.f k xs) (xs.map conv) := by
  refine Ev.congr (fun k => ?_) (copy_loop xs hn xs.length 0 (by omega))
  unfold laws_toValueS.f
  rw [if_pos (by omega), if_pos (by omega)]
  simp

theorem eq_loop (xs : List S39) (hn : xs.length ≤ 8796093022208) : ∀ (d i : Nat), i + d = xs.length →
    Ev (fun k => laws_eqValueS.l0 k xs xs (i : Int)) true := by
  intro d
  induction d with
  | zero =>
    intro i hi
    refine Ev.step (f := fun _ => some true) (fun k => ?_) (Ev.now _)
    simp only [laws_eqValueS.l0]
    rw [if_neg (by omega)]
  | succ d ih =>
    intro i hi
    refine Ev.step (fun k => ?_) (ih (i + 1) (by omega))
    simp only [laws_eqValueS.l0, laws_eqValue.f]
    rw [if_pos (by omega), if_pos (by omega), if_pos (by omega), wrap_id (by omega) (by omega)]
    simp
theorem eq_same (xs : List S39) (hn : xs.length ≤ 8796093022208) : Ev (fun k => laws_eqValueS.f k xs xs) true := by
  refine Ev.congr (fun k => ?_) (eq_loop xs hn xs.length 0 (by omega))
  unfold laws_eqValueS.f
  rw [if_pos rfl]
  rfl

/-- The sizes: either the law passes by, or the list is short and the next budget is no greater. -/
theorem size_loop (xs : List S35) (hw : ∀ x ∈ xs, x.f2.size ≤ 9223372036854775807) (hn : xs.length ≤ 1048576) : ∀ (d i : Nat) (a : Int), i + d = xs.length → 0 ≤ a → a ≤ 1048576 →
    ∃ r, Ev (fun k => laws_szValueS.l0 k xs a (i : Int)) r ∧ r ≤ 1048576 := by
  intro d
  induction d with
  | zero =>
    intro i a hi h0 h1
    refine ⟨a, Ev.step (f := fun _ => some a) (fun k => ?_) (Ev.now _), h1⟩
    simp only [laws_szValueS.l0]
    rw [if_neg (by omega)]
  | succ d ih =>
    intro i a hi h0 h1
    have hr := rd24 xs i (by omega)
    have hs := hw xs[i] (List.getElem_mem _)
    have hw1 : wrap64 (a - ((xs[i]).f2.size : Int)) = a - ((xs[i]).f2.size : Int) := wrap_id (by omega) (by omega)
    by_cases hneg : a - ((xs[i]).f2.size : Int) < 0
    · refine ⟨-1, Ev.step (f := fun _ => some (-1)) (fun k => ?_) (Ev.now _), by omega⟩
      simp only [laws_szValueS.l0, laws_szValue.f]
      rw [if_pos (by omega), if_pos (by omega), hr, hw1, if_pos hneg]
      rfl
    · obtain ⟨r, he, hb⟩ := ih (i + 1) (a - ((xs[i]).f2.size : Int)) (by omega) (by omega) (by omega)
      refine ⟨r, Ev.step (fun k => ?_) he, hb⟩
      simp only [laws_szValueS.l0, laws_szValue.f]
      rw [if_pos (by omega), if_pos (by omega), hr, hw1, if_neg hneg, wrap_id (x := (i : Int) + 1) (by omega) (by omega)]
      simp only [Option.bind_some]
      rw [if_neg hneg]
      rfl
theorem sizes (xs : List S35) (hl : xs.length ≤ 9223372036854775807) (hw : ∀ x ∈ xs, x.f2.size ≤ 9223372036854775807) (a : Int) (h0 : 0 ≤ a) (h1 : a ≤ 1048576) :
    ∃ r, Ev (fun k => laws_szValueS.f k xs a) r ∧ r ≤ 1048576 ∧ (0 ≤ r → xs.length ≤ 1048576) := by
  have hw1 : wrap64 (a - (xs.length : Int)) = a - (xs.length : Int) := wrap_id (by omega) (by omega)
  unfold laws_szValueS.f
  rw [hw1]
  by_cases hneg : a - (xs.length : Int) < 0
  · exact ⟨-1, Ev.congr (fun k => if_pos hneg) (Ev.now _), by omega, by omega⟩
  · obtain ⟨r, he, hb⟩ := size_loop xs hw (by omega) xs.length 0 (a - (xs.length : Int)) (by omega) (by omega) (by omega)
    exact ⟨r, Ev.congr (fun k => if_neg hneg) he, hb, fun _ => by omega⟩

/-! The rows' test -/
theorem ok_alike (k n : Int) (t : ByteArray) : ∃ b, spec_ValueOK.f k n t = some b ∧ impl_ValueOK.f k n t = some b := by
  unfold spec_ValueOK.f impl_ValueOK.f impl_hasText.f
  have e : ∀ x : Int, ∃ b, spec_l01In.f x 0 1 = some b ∧ impl_within.f x 0 1 = some b := by
    intro x
    unfold spec_l01In.f impl_within.f
    split <;> exact ⟨_, rfl, rfl⟩
  obtain ⟨b, h1, h2⟩ := e n
  rw [h1, h2]
  simp only [Option.bind_some]
  by_cases h0 : k = 0
  · simp only [h0, if_true]
    split <;> exact ⟨_, rfl, rfl⟩
  · by_cases h1 : k = 1
    · subst h1
      simp only [h0, if_false, if_true]
      split <;> exact ⟨_, rfl, rfl⟩
    · by_cases h2 : k = 2
      · subst h2
        simp only [h0, h1, if_false, if_true]
        exact ⟨_, rfl, rfl⟩
      · by_cases h3 : k = 3
        · subst h3
          by_cases hn : n = 0 <;> simp [hn]
        · by_cases h4 : k = 4
          · subst h4
            by_cases hn : n = 0 <;> simp [hn]
          · simp [h0, h1, h2, h3, h4]
/-- A value that is right. -/
def okV (x : S39) : Bool := (spec_ValueOK.f x.f0 x.f1 x.f2).getD false
theorem okV_spec (x : S39) : spec_ValueOK.f x.f0 x.f1 x.f2 = some (okV x) := by
  obtain ⟨b, h, _⟩ := ok_alike x.f0 x.f1 x.f2
  unfold okV
  rw [h]
  rfl
theorem okV_impl (x : S39) : impl_ValueOK.f x.f0 x.f1 x.f2 = some (okV x) := by
  obtain ⟨b, h, h'⟩ := ok_alike x.f0 x.f1 x.f2
  unfold okV
  rw [h, h']
  rfl
def okRow (l : List S39) : Bool := decide (l.length ≤ 8) && l.all okV
theorem row_impl (l : List S39) : impl_rowOK.f l = some (okRow l) := by
  unfold impl_rowOK.f okRow
  have hp : ∀ x, impl_rowOK.p x = !okV x := by
    intro x
    unfold impl_rowOK.p impl_rowOK_1.f
    rw [okV_impl]
    rfl
  have ha : (!l.any impl_rowOK.p) = l.all okV := by
    rw [show impl_rowOK.p = fun x => !okV x from funext hp, List.not_any_eq_all_not]
    simp
  rw [ha]
  by_cases h : l.length ≤ 8
  · rw [if_pos (by omega)]
    simp [h]
  · rw [if_neg (by omega)]
    simp [h]
theorem row_loop (xs : List S39) (hn : xs.length ≤ 8) : ∀ (d i : Nat), i + d = xs.length →
    Ev (fun k => spec_l01Row.l0 k xs (i : Int)) ((xs.drop i).all okV) := by
  intro d
  induction d with
  | zero =>
    intro i hi
    refine Ev.step (f := fun _ => some ((xs.drop i).all okV)) (fun k => ?_) (Ev.now _)
    simp only [spec_l01Row.l0]
    rw [if_neg (by omega), List.drop_eq_nil_of_le (by omega)]
    rfl
  | succ d ih =>
    intro i hi
    have hr := rd27 xs i (by omega)
    have hd : xs.drop i = xs[i] :: xs.drop (i + 1) := List.drop_eq_getElem_cons (by omega)
    cases ho : okV xs[i] with
    | false =>
      refine Ev.step (f := fun _ => some ((xs.drop i).all okV)) (fun k => ?_) (Ev.now _)
      simp only [spec_l01Row.l0]
      rw [if_pos (by omega), if_pos (by omega), hr, okV_spec, ho, hd, List.all_cons, ho]
      rfl
    | true =>
      refine Ev.step (fun k => ?_) (by
        have := ih (i + 1) (by omega)
        rw [hd, List.all_cons, ho, Bool.true_and]
        exact this)
      simp only [spec_l01Row.l0]
      rw [if_pos (by omega), if_pos (by omega), hr, okV_spec, ho, wrap_id (x := (i : Int) + 1) (by omega) (by omega)]
      rfl
theorem row_spec (l : List S39) : Ev (fun k => spec_l01Row.f k l) (okRow l) := by
  unfold spec_l01Row.f okRow
  by_cases h : l.length ≤ 8
  · refine Ev.congr (fun k => if_neg (by omega)) ?_
    have := row_loop l h l.length 0 (by omega)
    simpa [h] using this
  · refine Ev.congr (fun k => if_pos (by omega)) ?_
    simpa [h] using Ev.now false
end Go.Proofs.YtnhfhafbdbmkpaaDoor.ListX
