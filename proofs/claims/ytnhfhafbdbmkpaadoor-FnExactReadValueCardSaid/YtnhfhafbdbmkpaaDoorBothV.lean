/- Literals read by both sides as lists tell it; plain lemmas. -/
import Derived.Test.YtnhfhafbdbmkpaaDoorXV7
import Derived.Test.YtnhfhafbdbmkpaaDoorReadV
namespace Go.Proofs.YtnhfhafbdbmkpaaDoor.BothV
open Go Go.RowKit Go.Proofs.YtnhfhafbdbmkpaaDoor.XV Go.Proofs.YtnhfhafbdbmkpaaDoorW.PrintWords Go.Proofs.YtnhfhafbdbmkpaaDoorW.PrintLast Go.Proofs.YtnhfhafbdbmkpaaDoorW.PrintMore Go.Proofs.YtnhfhafbdbmkpaaDoor.Aid
open Go.Proofs.YtnhfhafbdbmkpaaDoor.TextV Go.Proofs.YtnhfhafbdbmkpaaDoor.ReadV
set_option linter.unusedVariables false
set_option linter.unusedSimpArgs false

theorem toList_iff (s t : ByteArray) : s.toList = t.toList ↔ s = t := by
  constructor
  · intro h
    rw [ByteArray.toList_eq, ByteArray.toList_eq] at h
    exact ByteArray.ext (Array.ext' h)
  · rintro rfl
    rfl
theorem const_iff (s : ByteArray) (l : List UInt8) : s.toList = l ↔ s.data.toList = l := by rw [ByteArray.toList_eq]
theorem bytes_inj {s t : ByteArray} (h : bytesOf s = bytesOf t) : s = t := by rw [← strOfNums_bytesOf s, h, strOfNums_bytesOf]
theorem bytesOf_strOfNums (xs : List Int) (h : ∀ x ∈ xs, 0 ≤ x ∧ x < 256) : bytesOf (strOfNums xs) = xs := by
  unfold bytesOf strOfNums
  simp only [List.map_map]
  refine (List.map_congr_left (g := id) fun x hm => ?_).trans (List.map_id _)
  have := h x hm
  simp only [Function.comp, id]
  rw [UInt8.toNat_ofNat']
  omega
theorem bytesOf_extract (t : ByteArray) (a b : Nat) : bytesOf (t.extract a b) = ((bytesOf t).drop a).take (b - a) := by
  unfold bytesOf
  rw [ByteArray.data_extract, Array.toList_extract, List.extract, List.map_take, List.map_drop]
theorem cons_of (t : ByteArray) (h : 0 < t.size) : bytesOf t = bt t 0 :: (bytesOf t).drop 1 := by
  have := drop_bt t 0 h
  rw [List.drop_zero] at this
  exact this
theorem cons_two (t : ByteArray) (h : 1 < t.size) : bytesOf t = bt t 0 :: bt t 1 :: (bytesOf t).drop 2 := by
  rw [cons_of t (by omega), drop_bt t 1 h]
  rfl
/-! The heads of a text -/
theorem pre_one (t : ByteArray) : strings_HasPrefix.f t ⟨#[39]⟩ = some (decide (0 < t.size ∧ bt t 0 = 39)) := by
  unfold strings_HasPrefix.f stringslite_HasPrefix.f
  have h1 : (⟨#[39]⟩ : ByteArray).size = 1 := rfl
  rw [h1]
  by_cases h : 0 < t.size
  · rw [if_pos (by omega), if_pos (by omega), if_pos (by omega), Option.bind_some]
    congr 1
    rw [Bool.eq_iff_iff, beq_iff_eq, decide_eq_true_iff, toList_iff]
    have e : bytesOf (t.extract 0 ((1 : Nat) : Int).toNat) = [bt t 0] := by
      rw [bytesOf_extract, List.drop_zero, cons_of t h]
      rfl
    constructor
    · intro hh
      rw [hh] at e
      refine ⟨h, ?_⟩
      have : bytesOf (⟨#[39]⟩ : ByteArray) = [39] := rfl
      rw [this] at e
      exact (List.cons.inj e).1.symm
    · rintro ⟨_, hh⟩
      refine bytes_inj ?_
      rw [e, hh]
      rfl
  · rw [if_neg (by omega), Option.bind_some, decide_eq_false (fun hh => h hh.1)]
theorem pre_two (t : ByteArray) : strings_HasPrefix.f t ⟨#[120, 39]⟩ = some (decide (1 < t.size ∧ bt t 0 = 120 ∧ bt t 1 = 39)) := by
  unfold strings_HasPrefix.f stringslite_HasPrefix.f
  have h1 : (⟨#[120, 39]⟩ : ByteArray).size = 2 := rfl
  rw [h1]
  by_cases h : 1 < t.size
  · rw [if_pos (by omega), if_pos (by omega), if_pos (by omega), Option.bind_some]
    congr 1
    rw [Bool.eq_iff_iff, beq_iff_eq, decide_eq_true_iff, toList_iff]
    have e : bytesOf (t.extract 0 ((2 : Nat) : Int).toNat) = [bt t 0, bt t 1] := by
      rw [bytesOf_extract, List.drop_zero, cons_two t h]
      rfl
    constructor
    · intro hh
      rw [hh] at e
      have : bytesOf (⟨#[120, 39]⟩ : ByteArray) = [120, 39] := rfl
      rw [this] at e
      simp only [List.cons.injEq, and_true] at e
      exact ⟨h, e.1.symm, e.2.symm⟩
    · rintro ⟨_, hh, hk⟩
      refine bytes_inj ?_
      rw [e, hh, hk]
      rfl
  · rw [if_neg (by omega), Option.bind_some, decide_eq_false (fun hh => h hh.1)]
/-! Two quotes put back to one, by the program -/
def unq (t : ByteArray) : ByteArray := ⟨(Lib.replaceAll t.data.toList [39, 39] [39]).toArray⟩
theorem impl_unq (t : ByteArray) (hs : t.size ≤ 65536) : strings_ReplaceAll.f t ⟨#[39, 39]⟩ ⟨#[39]⟩ = some (unq t) := by
  unfold strings_ReplaceAll.f
  have hc := Lib.countB_mul_le (⟨#[39, 39]⟩ : ByteArray) (by decide) t.size t (Nat.le_refl _)
  have h1 : (⟨#[39]⟩ : ByteArray).size = 1 := rfl
  have h2 : (⟨#[39, 39]⟩ : ByteArray).size = 2 := rfl
  rw [h2] at hc
  rw [if_pos ⟨by decide, by omega, by rw [h1]; omega⟩]
  rfl
theorem esc_map (l : List UInt8) : (Lits.esc8 l).map (fun b => (b.toNat : Int)) = Lits.esc (l.map fun b => (b.toNat : Int)) := by
  unfold Lits.esc8 Lits.esc
  simp only [List.map_flatMap, List.flatMap_map]
  congr 1
  funext c
  by_cases h : c = 39
  · subst h
    rfl
  · have : ¬ (c.toNat : Int) = 39 := fun e => h (UInt8.toNat_inj.1 (by show c.toNat = 39; omega))
    rw [if_neg h, if_neg this]
    rfl
theorem unq_esc (t s : ByteArray) (h : bytesOf t = Lits.esc (bytesOf s)) : unq t = s := by
  have e : t = ⟨(Lits.esc8 s.data.toList).toArray⟩ := by
    refine bytes_inj ?_
    rw [h]
    exact (esc_map s.data.toList).symm
  unfold unq
  have hr : Lib.replaceAll (Lits.esc8 s.data.toList) [39, 39] [39] = s.data.toList := by
    show Lib.replace (Lits.esc8 s.data.toList) [39, 39] [39] (-1) = _
    unfold Lib.replace
    have hn : Lib.replaceNum (Lits.esc8 s.data.toList) [39, 39] (-1) = Lib.count (Lits.esc8 s.data.toList) [39, 39] := by
      unfold Lib.replaceNum
      rw [if_pos (.inl (by decide))]
    rw [if_neg (by decide), hn, Lits.unesc]
  rw [e]
  show (⟨(Lib.replaceAll (Lits.esc8 s.data.toList) [39, 39] [39]).toArray⟩ : ByteArray) = s
  rw [hr]
/-! A number, by the program -/
def few (t : ByteArray) : Bool := decide ((Lib.trimPrefix t.data.toList [45]).length ≤ 18)
theorem few_is (t : ByteArray) : impl_readNumber.few t = few t := by
  unfold impl_readNumber.few few
  congr 1
  simp [ByteArray.size]
  omega
def num (t : ByteArray) : Int × Bool := match Lib.atoiAll t.data.toList with
  | .ok v => (v, if Lib.itoa v = t.data.toList then few t else false)
  | .range => (Lib.atoiSat t.data.toList, false)
  | _ => (0, false)
theorem impl_num (t : ByteArray) (hs : t.size ≤ 65536) : impl_readNumber.f t = some (num t) := by
  unfold impl_readNumber.f num
  rw [if_pos (by omega)]
  cases hA : Lib.atoiAll t.data.toList with
  | ok v =>
    have hb := Lib.atoiAll_bounds hA
    have : impl_formatInt.f v = some ⟨(Lib.itoa v).toArray⟩ := by
      unfold impl_formatInt.f strconv_Itoa.f
      rw [if_pos hb]
      rfl
    simp only [this, Option.bind_some, few_is]
    congr 2
    have e : ((⟨(Lib.itoa v).toArray⟩ : ByteArray).toList = t.toList) = (Lib.itoa v = t.data.toList) := by
      rw [ByteArray.toList_eq, ByteArray.toList_eq]
    simp only [e]
  | _ => rfl
/-- A number's text that the program takes, the reference takes, and the other way round. -/
theorem num_true (t : ByteArray) (v : Int) (h : num t = (v, true)) : Lits.numb t.data.toList = (v, true) := by
  unfold num at h
  cases hA : Lib.atoiAll t.data.toList with
  | ok u =>
    rw [hA] at h
    simp only [Prod.mk.injEq] at h
    obtain ⟨rfl, h⟩ := h
    split at h
    · rename_i he
      have := of_decide_eq_true h
      rw [← he] at this ⊢
      exact Lits.numb_itoa _ this
    · cases h
  | _ =>
    rw [hA] at h
    simp at h
theorem numb_num (t : ByteArray) (v : Int) (h : Lits.numb t.data.toList = (v, true)) : num t = (v, true) ∧ Lib.itoa v = t.data.toList ∧ -9223372036854775808 ≤ v ∧ v ≤ 9223372036854775807 := by
  obtain ⟨h1, h2, h3⟩ := Lits.numb_true _ _ h
  have hb := Lib.atoiAll_bounds h1
  refine ⟨?_, h2, hb.1, hb.2⟩
  unfold num
  rw [h1]
  simp only
  rw [if_pos h2]
  unfold few
  rw [decide_eq_true h3]
/-! Which texts a value's test takes -/
theorem ok_total (k n : Int) (t : ByteArray) : ∃ b, impl_ValueOK.f k n t = some b := by
  unfold impl_ValueOK.f impl_hasText.f impl_within.f
  repeat' split
  all_goals first | exact ⟨_, rfl⟩ | (simp only [Option.bind_some]; repeat' split) 
  all_goals exact ⟨_, rfl⟩
theorem ok_text (k : Int) (hk : k = 3 ∨ k = 4) (t : ByteArray) : impl_ValueOK.f k 0 t = some (decide (t.size ≤ 60)) := by
  unfold impl_ValueOK.f impl_hasText.f
  rcases hk with rfl | rfl
  · simp
    omega
  · simp
    omega
theorem nil_list : (⟨#[]⟩ : ByteArray).toList = [] := by rw [ByteArray.toList_eq]
theorem ok_null : impl_ValueOK.f 0 0 ⟨#[]⟩ = some true := by
  unfold impl_ValueOK.f
  rw [nil_list]
  rfl
theorem ok_bool (n : Int) (h : n = 0 ∨ n = 1) : impl_ValueOK.f 1 n ⟨#[]⟩ = some true := by
  unfold impl_ValueOK.f
  rw [nil_list]
  rcases h with rfl | rfl <;> rfl
theorem ok_num (n : Int) : impl_ValueOK.f 2 n ⟨#[]⟩ = some true := by
  unfold impl_ValueOK.f
  rw [nil_list]
  rfl
/-! The reference, whole -/
def tail (t : ByteArray) : Int × Int × ByteArray × Bool := if 1 < t.size ∧ bt t 0 = 120 then (if (quo t 1).2 = (t.size : Int) then (4, 0, (plain (quo t 1).1).1, if (plain (quo t 1).1).2 = true then decide (((plain (quo t 1).1).1.size : Int) ≤ 60) else false) else (0, 0, ⟨#[]⟩, false)) else (0, 0, ⟨#[]⟩, false)
theorem strOf_small (t : ByteArray) (a : Nat) (hs : t.size ≤ 65536) (h : (quo t a).2 = (t.size : Int)) : (quo t a).1.size ≤ 65536 := by
  unfold quo at h ⊢
  split
  · rename_i hq
    rw [if_pos hq] at h
    unfold res at h ⊢
    cases hc : Lits.scan ((bytesOf t).drop (a + 1)) with
    | none =>
      rw [hc] at h
      simp only at h
      omega
    | some p =>
      rw [hc] at h
      simp only at h ⊢
      obtain ⟨s, c⟩ := p
      have hl := (Lits.scan_len _ _ (Nat.le_refl _) s c hc)
      have hd : ((bytesOf t).drop (a + 1)).length = t.size - (a + 1) := by rw [List.length_drop, bytesOf_length]
      have := hl.2 (by simp only at h; omega)
      have hz : (Lits.esc s).length ≤ 65536 := by
        have : ((bytesOf t).drop (a + 1)).length = (Lits.esc s ++ [39]).length := by rw [this]
        rw [List.length_append] at this
        omega
      rw [strOfNums_size, List.nil_append]
      have : ∀ l : List Int, l.length ≤ (Lits.esc l).length := by
        intro l
        induction l with
        | nil => simp
        | cons x l ih =>
          rw [Lits.esc_cons, List.length_append, List.length_cons]
          split <;> simp <;> omega
      exact Nat.le_trans (this s) hz
  · rename_i hq
    rw [if_neg hq] at h
    simp only at h
    omega
theorem spec_tail (t : ByteArray) (hs : t.size ≤ 65536) (x : ByteArray) : Ev (fun k => spec_l01Read.j0 k t x false) (tail t) := by
  have no : Ev (fun k => spec_l01Read.j1 k t false) (0, 0, ⟨#[]⟩, false) := Ev.step (f := fun _ => some (0, 0, ⟨#[]⟩, false)) (fun k => by simp only [spec_l01Read.j1, Bool.false_eq_true, if_false]) (Ev.now _)
  unfold tail
  by_cases h1 : 1 < t.size
  · by_cases hx : bt t 0 = 120
    · rw [if_pos ⟨h1, hx⟩]
      have hb : (bt t 0 == 120) = true := beq_iff_eq.2 hx
      refine Ev.step (f := fun k => spec_l01Read.j1 k t true) (fun k => ?_) ?_
      · simp only [spec_l01Read.j0, Bool.false_eq_true, if_false]
        rw [if_pos (by omega), if_pos (by omega), hb]
      · refine Ev.step (f := fun k => (spec_l01Quoted.f k t ((1 : Nat) : Int)).bind fun bt123 => (if bt123.2 = (t.size : Int) then ((spec_l01Plain.f k bt123.1).bind fun bt125 => (if bt125.2 = true then (some (4, 0, bt125.1, decide ((bt125.1.size : Int) ≤ 60))) else (some (4, 0, bt125.1, false)))) else (some (0, 0, (⟨#[]⟩ : ByteArray), false)))) (fun k => by simp only [spec_l01Read.j1, if_true] <;> rfl) ?_
        refine Ev.bind (spec_quoted t hs 1 (Nat.le_refl _)) ?_
        by_cases hq : (quo t 1).2 = (t.size : Int)
        · rw [if_pos hq]
          refine Ev.congr (fun _ => if_pos hq) (Ev.bind (spec_plain _ (strOf_small t 1 hs hq)) ?_)
          by_cases hp : (plain (quo t 1).1).2 = true
          · simp only [if_pos hp]
            exact Ev.now _
          · simp only [if_neg hp]
            exact Ev.now _
        · rw [if_neg hq]
          exact Ev.congr (fun _ => if_neg hq) (Ev.now _)
    · rw [if_neg (fun h => hx h.2)]
      have hb : (bt t 0 == 120) = false := beq_eq_false_iff_ne.2 hx
      refine Ev.step (fun k => ?_) no
      simp only [spec_l01Read.j0, Bool.false_eq_true, if_false]
      rw [if_pos (by omega), if_pos (by omega), hb]
  · rw [if_neg (fun h => h1 h.1)]
    refine Ev.step (fun k => ?_) no
    simp only [spec_l01Read.j0, Bool.false_eq_true, if_false]
    rw [if_neg (by omega)]
def Cn : List UInt8 := [110, 117, 108, 108]
def Cf : List UInt8 := [102, 97, 108, 115, 101]
def Ct : List UInt8 := [116, 114, 117, 101]
def sread (t : ByteArray) : Int × Int × ByteArray × Bool :=
  if t.data.toList = Cn then (0, 0, ⟨#[]⟩, true) else if t.data.toList = Cf then (1, 0, ⟨#[]⟩, true) else if t.data.toList = Ct then (1, 1, ⟨#[]⟩, true)
  else if (Lits.numb t.data.toList).2 = true then (2, (Lits.numb t.data.toList).1, ⟨#[]⟩, true)
  else if (quo t 0).2 = (t.size : Int) ∧ (quo t 0).2 > 0 then (3, 0, (quo t 0).1, decide (((quo t 0).1.size : Int) ≤ 60)) else tail t
theorem spec_sread (t : ByteArray) (hs : t.size ≤ 65536) : Ev (fun k => spec_l01Read.f k t) (sread t) := by
  unfold spec_l01Read.f sread
  simp only [const_iff]
  by_cases h1 : t.data.toList = Cn
  · rw [if_pos h1]
    exact Ev.congr (fun _ => if_pos h1) (Ev.now _)
  rw [if_neg h1]
  refine Ev.congr (fun _ => if_neg h1) ?_
  by_cases h2 : t.data.toList = Cf
  · rw [if_pos h2]
    exact Ev.congr (fun _ => if_pos h2) (Ev.now _)
  rw [if_neg h2]
  refine Ev.congr (fun _ => if_neg h2) ?_
  by_cases h3 : t.data.toList = Ct
  · rw [if_pos h3]
    exact Ev.congr (fun _ => if_pos h3) (Ev.now _)
  rw [if_neg h3]
  refine Ev.congr (fun _ => if_neg h3) (Ev.bind (spec_number t hs) ?_)
  by_cases h4 : (Lits.numb t.data.toList).2 = true
  · rw [if_pos h4]
    exact Ev.congr (fun _ => if_pos h4) (Ev.now _)
  rw [if_neg h4]
  refine Ev.congr (fun _ => if_neg h4) (Ev.bind (spec_quoted t hs 0 (by omega)) ?_)
  by_cases h5 : (quo t 0).2 = (t.size : Int)
  · refine Ev.congr (fun _ => if_pos h5) ?_
    by_cases h6 : (quo t 0).2 > 0
    · rw [if_pos ⟨h5, h6⟩, decide_eq_true h6]
      exact Ev.step (f := fun _ => some (3, 0, (quo t 0).1, decide (((quo t 0).1.size : Int) ≤ 60))) (fun k => by simp only [spec_l01Read.j0, if_true]) (Ev.now _)
    · rw [if_neg (fun h => h6 h.2), decide_eq_false h6]
      exact spec_tail t hs _
  · rw [if_neg (fun h => h5 h.1)]
    exact Ev.congr (fun _ => if_neg h5) (spec_tail t hs _)
/-! The program, whole -/
def iread (t : ByteArray) : Int × Int × ByteArray :=
  if t.data.toList = Ct then (1, 1, ⟨#[]⟩) else if t.data.toList = Cf then (1, 0, ⟨#[]⟩)
  else if (1 < t.size ∧ bt t 0 = 120 ∧ bt t 1 = 39) ∧ 3 ≤ t.size then (4, 0, (plain (t.extract 2 (t.size - 1))).1)
  else if (0 < t.size ∧ bt t 0 = 39) ∧ 2 ≤ t.size then (3, 0, unq (t.extract 1 (t.size - 1)))
  else if (num t).2 = true then (2, (num t).1, ⟨#[]⟩) else (0, 0, ⟨#[]⟩)
theorem impl_j2 (t : ByteArray) (hs : t.size ≤ 65536) (b : Bool) (hb : b = true → 2 ≤ t.size) : Ev (fun k => impl_readLiteral.j2 k t b) (if b = true then (3, 0, unq (t.extract 1 (t.size - 1))) else if (num t).2 = true then (2, (num t).1, ⟨#[]⟩) else (0, 0, ⟨#[]⟩)) := by
  cases b with
  | true =>
    have h2 := hb rfl
    have hw : wrap64 ((t.size : Int) - 1) = ((t.size - 1 : Nat) : Int) := by
      rw [wrap_id (by omega) (by omega)]
      omega
    rw [if_pos rfl]
    refine Ev.step (f := fun _ => some (3, 0, unq (t.extract 1 (t.size - 1)))) (fun k => ?_) (Ev.now _)
    simp only [impl_readLiteral.j2, if_true]
    rw [hw, if_pos (by omega), if_pos (by omega), Int.toNat_natCast, impl_unq _ (by rw [ByteArray.size_extract]; omega), Option.bind_some]
  | false =>
    rw [if_neg (by decide)]
    refine Ev.step (f := fun _ => if (num t).2 = true then some (2, (num t).1, ⟨#[]⟩) else some (0, 0, ⟨#[]⟩)) (fun k => ?_) ?_
    · simp only [impl_readLiteral.j2, Bool.false_eq_true, if_false]
      rw [impl_num t hs, Option.bind_some]
    · split <;> exact Ev.now _
theorem impl_j1 (t : ByteArray) (hs : t.size ≤ 65536) (b : Bool) (hb : b = true → 3 ≤ t.size) : Ev (fun k => impl_readLiteral.j1 k t b) (if b = true then (4, 0, (plain (t.extract 2 (t.size - 1))).1) else if (0 < t.size ∧ bt t 0 = 39) ∧ 2 ≤ t.size then (3, 0, unq (t.extract 1 (t.size - 1))) else if (num t).2 = true then (2, (num t).1, ⟨#[]⟩) else (0, 0, ⟨#[]⟩)) := by
  cases b with
  | true =>
    have h2 := hb rfl
    have hw : wrap64 ((t.size : Int) - 1) = ((t.size - 1 : Nat) : Int) := by
      rw [wrap_id (by omega) (by omega)]
      omega
    rw [if_pos rfl]
    refine Ev.step (f := fun k => (impl_readHex.f k (t.extract 2 (t.size - 1))).bind fun bt165 => (some (4, 0, bt165.1))) (fun k => ?_) (Ev.bind (impl_plain _ (by rw [ByteArray.size_extract]; omega)) (Ev.now _))
    simp only [impl_readLiteral.j1, if_true]
    rw [hw, if_pos (by omega), if_pos (by omega), Int.toNat_natCast]
  | false =>
    rw [if_neg (by decide)]
    by_cases h : 0 < t.size ∧ bt t 0 = 39
    · have := impl_j2 t hs (decide ((t.size : Int) ≥ 2)) (fun h => by have := of_decide_eq_true h; omega)
      have e : ((0 < t.size ∧ bt t 0 = 39) ∧ 2 ≤ t.size) ↔ decide ((t.size : Int) ≥ 2) = true := by
        rw [decide_eq_true_iff]
        constructor
        · intro h'
          have := h'.2
          omega
        · intro h'
          exact ⟨h, by omega⟩
      simp only [e]
      refine Ev.step (fun k => ?_) this
      simp only [impl_readLiteral.j1, Bool.false_eq_true, if_false]
      rw [pre_one, Option.bind_some, decide_eq_true h, if_pos rfl]
    · have := impl_j2 t hs false (fun h => by cases h)
      rw [if_neg (by decide)] at this
      rw [if_neg (fun h' => h h'.1)]
      refine Ev.step (fun k => ?_) this
      simp only [impl_readLiteral.j1, Bool.false_eq_true, if_false]
      rw [pre_one, Option.bind_some, decide_eq_false h, if_neg (by decide)]
theorem impl_j0 (t : ByteArray) (hs : t.size ≤ 65536) : Ev (fun k => impl_readLiteral.j0 k t false) (if (1 < t.size ∧ bt t 0 = 120 ∧ bt t 1 = 39) ∧ 3 ≤ t.size then (4, 0, (plain (t.extract 2 (t.size - 1))).1)
  else if (0 < t.size ∧ bt t 0 = 39) ∧ 2 ≤ t.size then (3, 0, unq (t.extract 1 (t.size - 1)))
  else if (num t).2 = true then (2, (num t).1, ⟨#[]⟩) else (0, 0, ⟨#[]⟩)) := by
  by_cases h : 1 < t.size ∧ bt t 0 = 120 ∧ bt t 1 = 39
  · have := impl_j1 t hs (decide ((t.size : Int) ≥ 3)) (fun h => by have := of_decide_eq_true h; omega)
    have e : ((1 < t.size ∧ bt t 0 = 120 ∧ bt t 1 = 39) ∧ 3 ≤ t.size) ↔ decide ((t.size : Int) ≥ 3) = true := by
      rw [decide_eq_true_iff]
      constructor
      · intro h'
        have := h'.2
        omega
      · intro h'
        exact ⟨h, by omega⟩
    simp only [e]
    refine Ev.step (fun k => ?_) this
    simp only [impl_readLiteral.j0, Bool.false_eq_true, if_false]
    rw [pre_two, Option.bind_some, decide_eq_true h, if_pos rfl]
  · have := impl_j1 t hs false (fun h => by cases h)
    rw [if_neg (by decide)] at this
    rw [if_neg (fun h' => h h'.1)]
    refine Ev.step (fun k => ?_) this
    simp only [impl_readLiteral.j0, Bool.false_eq_true, if_false]
    rw [pre_two, Option.bind_some, decide_eq_false h, if_neg (by decide)]
theorem impl_iread (t : ByteArray) (hs : t.size ≤ 65536) : Ev (fun k => impl_readLiteral.f k t) (iread t) := by
  unfold impl_readLiteral.f iread
  simp only [const_iff]
  by_cases h1 : t.data.toList = Ct
  · rw [if_pos h1]
    refine Ev.congr (fun _ => if_pos h1) (Ev.step (f := fun _ => some (1, 1, ⟨#[]⟩)) (fun k => ?_) (Ev.now _))
    simp only [impl_readLiteral.j0, if_true, const_iff]
    exact if_pos h1
  rw [if_neg h1]
  refine Ev.congr (fun _ => if_neg h1) ?_
  rw [ByteArray.toList_eq]
  by_cases h2 : t.data.toList = Cf
  · rw [if_pos h2]
    have hb : (t.data.toList == ([102, 97, 108, 115, 101] : List UInt8)) = true := beq_iff_eq.2 h2
    rw [hb]
    refine Ev.step (f := fun _ => some (1, 0, ⟨#[]⟩)) (fun k => ?_) (Ev.now _)
    simp only [impl_readLiteral.j0, if_true, const_iff]
    exact if_neg h1
  · rw [if_neg h2]
    have hb : (t.data.toList == ([102, 97, 108, 115, 101] : List UInt8)) = false := beq_eq_false_iff_ne.2 h2
    rw [hb]
    exact impl_j0 t hs
/-! What both answer -/
def told (v : Int × Int × ByteArray) : ByteArray := lit v.1 v.2.1 v.2.2
def takes (t : ByteArray) (v : Int × Int × ByteArray) : Prop := impl_ValueOK.f v.1 v.2.1 v.2.2 = some true ∧ told v = t
theorem esc_same (xs : List Int) : esc 39 [39, 39] xs = Lits.esc xs := rfl
theorem two_H (x : Int) (h0 : 0 ≤ x) (h1 : x < 256) : two x = [Lits.H (x / 16), Lits.H (x % 16)] := by
  have e : ∀ j : Int, 0 ≤ j → j < 16 → bt digits j = Lits.H j := by
    intro j j0 j1
    have : j = 0 ∨ j = 1 ∨ j = 2 ∨ j = 3 ∨ j = 4 ∨ j = 5 ∨ j = 6 ∨ j = 7 ∨ j = 8 ∨ j = 9 ∨ j = 10 ∨ j = 11 ∨ j = 12 ∨ j = 13 ∨ j = 14 ∨ j = 15 := by omega
    rcases this with rfl | rfl | rfl | rfl | rfl | rfl | rfl | rfl | rfl | rfl | rfl | rfl | rfl | rfl | rfl | rfl <;> decide
  unfold two
  rw [e _ (by omega) (by omega), e _ (by omega) (by omega)]
theorem hex_H (xs : List Int) (h : ∀ x ∈ xs, 0 ≤ x ∧ x < 256) : hex xs = Lits.hexH xs := by
  unfold hex Lits.hexH
  induction xs with
  | nil => rfl
  | cons x xs ih =>
    simp only [List.flatMap_cons]
    rw [two_H x (h x (by simp)).1 (h x (by simp)).2, ih (fun y hy => h y (by simp [hy]))]
theorem esc_range {xs : List Int} (h : ∀ x ∈ Lits.esc xs, 0 ≤ x ∧ x < 256) : ∀ x ∈ xs, 0 ≤ x ∧ x < 256 := by
  intro x hx
  refine h x ?_
  unfold Lits.esc
  rw [List.mem_flatMap]
  exact ⟨x, hx, by split <;> simp [*]⟩
theorem quote_bytes (s : ByteArray) : bytesOf (quote s) = 39 :: (Lits.esc (bytesOf s) ++ [39]) := by
  unfold quote
  rw [esc_same, bytesOf_strOfNums]
  · simp
  · intro x hx
    simp only [List.mem_append, List.mem_singleton] at hx
    rcases hx with (rfl | hx) | rfl
    · omega
    · unfold Lits.esc at hx
      rw [List.mem_flatMap] at hx
      obtain ⟨y, hy, hx⟩ := hx
      have := bytesOf_range s y hy
      split at hx <;> simp at hx <;> omega
    · omega
theorem hexed_bytes (s : ByteArray) : bytesOf (hexed s) = 120 :: 39 :: (Lits.hexH (bytesOf s) ++ [39]) := by
  have e : (⟨#[120, 39]⟩ : ByteArray) = strOfNums [120, 39] := by decide +kernel
  unfold hexed
  rw [q1_eq, e, ← strOfNums_append, ← strOfNums_append, hex_H _ (bytesOf_range s), bytesOf_strOfNums]
  · simp
  · intro x hx
    simp only [List.mem_append, List.mem_singleton, List.mem_cons, List.not_mem_nil, or_false] at hx
    rcases hx with ((rfl | rfl) | hx) | rfl
    · omega
    · omega
    · unfold Lits.hexH at hx
      rw [List.mem_flatMap] at hx
      obtain ⟨y, hy, hx⟩ := hx
      have := bytesOf_range s y hy
      simp only [List.mem_cons, List.not_mem_nil, or_false] at hx
      unfold Lits.H at hx
      rcases hx with rfl | rfl <;> split <;> omega
    · omega
theorem unh_hexH (s : ByteArray) : Lits.unh (Lits.hexH (bytesOf s)) = some (bytesOf s) := Lits.unh_hex _ (bytesOf_range s)
theorem hexH_no39 (s : ByteArray) : Lits.esc (Lits.hexH (bytesOf s)) = Lits.hexH (bytesOf s) := Lits.esc_plain _ (Lits.unh_no39 _ _ (Nat.le_refl _) _ (unh_hexH s))
/-- A text whose first byte is known begins no number. -/
theorem numb_head (t : ByteArray) (h0 : 0 < t.size) (h : bt t 0 = 39 ∨ bt t 0 = 120) : (Lits.numb t.data.toList).2 = false ∧ t.data.toList ≠ Cn ∧ t.data.toList ≠ Cf ∧ t.data.toList ≠ Ct := by
  obtain ⟨c, hd, hc⟩ := drop_u t 0 h0
  rw [List.drop_zero] at hd
  have hc' : (c.toNat : Int) = bt t 0 := hc
  rw [hd]
  refine ⟨?_, ?_, ?_, ?_⟩
  · unfold Lits.numb
    simp only
    rw [if_neg (by omega), if_pos]
    refine .inr (.inr ?_)
    rw [List.all_cons]
    have : Lits.isD c = false := by
      unfold Lits.isD
      rw [decide_eq_false_iff_not]
      omega
    rw [this, Bool.false_and]
  all_goals
    intro e
    have := (List.cons.inj e).1
    rw [this] at hc'
    have : bt t 0 = 110 ∨ bt t 0 = 102 ∨ bt t 0 = 116 := by first | exact .inl hc'.symm | exact .inr (.inl hc'.symm) | exact .inr (.inr hc'.symm)
    omega
theorem num_off (t : ByteArray) (h : (Lits.numb t.data.toList).2 = false) : (num t).2 = false := by
  cases hn : num t with
  | mk v b =>
    cases b with
    | false => rfl
    | true =>
      rw [num_true t v hn] at h
      cases h
theorem numb_word : (Lits.numb Cn).2 = false ∧ (Lits.numb Cf).2 = false ∧ (Lits.numb Ct).2 = false := by decide
theorem told_null : told (0, 0, ⟨#[]⟩) = ⟨Cn.toArray⟩ := rfl
theorem no_null (t : ByteArray) (h : t.data.toList ≠ Cn) : ¬ takes t (0, 0, ⟨#[]⟩) := by
  rintro ⟨_, e⟩
  rw [told_null] at e
  exact h (by rw [← e])
/-- The two sides' readings of one text. -/
def Agree (t : ByteArray) : Prop := ((sread t).2.2.2 = true ∧ sread t = ((iread t).1, (iread t).2.1, (iread t).2.2, true) ∧ takes t (iread t)) ∨ ((sread t).2.2.2 = false ∧ ¬ takes t (iread t))
theorem agree_single (t : ByteArray) (hs : t.size ≤ 65536) (h0 : 0 < t.size) (h39 : bt t 0 = 39) : Agree t := by
  obtain ⟨n1, n2, n3, n4⟩ := numb_head t h0 (.inl h39)
  have hB := cons_of t h0
  rw [h39] at hB
  have hl : ((bytesOf t).drop 1).length = t.size - 1 := by rw [List.length_drop, bytesOf_length]
  have et : tail t = (0, 0, ⟨#[]⟩, false) := by
    unfold tail
    rw [if_neg (fun h => by omega)]
  have eq0 : quo t 0 = res [] 1 (Lits.scan ((bytesOf t).drop 1)) := by
    unfold quo
    exact if_pos ⟨h0, h39⟩
  have es : sread t = if (quo t 0).2 = (t.size : Int) ∧ (quo t 0).2 > 0 then (3, 0, (quo t 0).1, decide (((quo t 0).1.size : Int) ≤ 60)) else tail t := by
    unfold sread
    rw [if_neg n2, if_neg n3, if_neg n4, if_neg (by rw [n1]; decide)]
  by_cases h2 : 2 ≤ t.size
  · have ei : iread t = (3, 0, unq (t.extract 1 (t.size - 1))) := by
      unfold iread
      rw [if_neg n4, if_neg n3, if_neg (fun h => by omega), if_pos ⟨⟨h0, h39⟩, h2⟩]
    by_cases hq : ∃ s, (bytesOf t).drop 1 = Lits.esc s ++ [39]
    · obtain ⟨s, hs'⟩ := hq
      have hr : ∀ x ∈ s, 0 ≤ x ∧ x < 256 := esc_range (fun x hx => bytesOf_range t x (by rw [hB, hs']; simp [hx]))
      have hsc : Lits.scan ((bytesOf t).drop 1) = some (s, (Lits.esc s).length + 1) := by rw [hs', Lits.scan_esc]
      have hq : quo t 0 = (strOfNums s, (t.size : Int)) := by
        rw [eq0, hsc]
        unfold res
        simp only [List.nil_append, Prod.mk.injEq, true_and]
        rw [hs', List.length_append, List.length_singleton] at hl
        omega
      have hu : unq (t.extract 1 (t.size - 1)) = strOfNums s := by
        refine unq_esc _ _ ?_
        rw [bytesOf_strOfNums s hr, bytesOf_extract, hs']
        rw [hs', List.length_append, List.length_singleton] at hl
        rw [List.take_append_of_le_length (by omega), List.take_of_length_le (by omega)]
      rw [hq] at es
      rw [if_pos ⟨rfl, by simp only; omega⟩] at es
      simp only at es
      rw [hu] at ei
      have hok := ok_text 3 (.inl rfl) (strOfNums s)
      by_cases h60 : (strOfNums s).size ≤ 60
      · refine .inl ⟨?_, ?_, ?_⟩
        · rw [es]
          exact decide_eq_true (by omega)
        · rw [es, ei, decide_eq_true (show ((strOfNums s).size : Int) ≤ 60 by omega)]
        · rw [ei]
          refine ⟨by rw [hok, decide_eq_true h60], ?_⟩
          show quote (strOfNums s) = t
          refine bytes_inj ?_
          rw [quote_bytes, bytesOf_strOfNums s hr, hB, hs']
      · refine .inr ⟨?_, ?_⟩
        · rw [es]
          exact decide_eq_false (by omega)
        · rw [ei]
          rintro ⟨h, _⟩
          rw [hok, decide_eq_false h60] at h
          cases h
    · refine .inr ⟨?_, ?_⟩
      · rw [es, if_neg, et]
        rintro ⟨a, b⟩
        refine hq ?_
        rw [eq0] at a b
        cases hc : Lits.scan ((bytesOf t).drop 1) with
        | none =>
          rw [hc] at b
          exact absurd b (by decide)
        | some p =>
          obtain ⟨s, c⟩ := p
          rw [hc] at a
          unfold res at a
          simp only at a
          exact ⟨s, (Lits.scan_len _ _ (Nat.le_refl _) s c hc).2 (by omega)⟩
      · rw [ei]
        rintro ⟨_, h⟩
        refine hq ⟨bytesOf (unq (t.extract 1 (t.size - 1))), ?_⟩
        have h' : quote (unq (t.extract 1 (t.size - 1))) = t := h
        have := congrArg bytesOf h'
        rw [quote_bytes, hB] at this
        exact (List.cons.inj this).2.symm
  · have ei : iread t = (0, 0, ⟨#[]⟩) := by
      unfold iread
      rw [if_neg n4, if_neg n3, if_neg (fun h => by omega), if_neg (fun h => h2 h.2), if_neg (by rw [num_off t n1]; decide)]
    refine .inr ⟨?_, by rw [ei]; exact no_null t n2⟩
    have hd : (bytesOf t).drop 1 = [] := List.drop_eq_nil_of_le (by rw [bytesOf_length]; omega)
    rw [es, eq0, hd, scan_nil, if_neg, et]
    rintro ⟨_, b⟩
    exact absurd b (by decide)
theorem agree_double (t : ByteArray) (hs : t.size ≤ 65536) (h0 : 1 < t.size) (hx : bt t 0 = 120) (h39 : bt t 1 = 39) : Agree t := by
  obtain ⟨n1, n2, n3, n4⟩ := numb_head t (by omega) (.inr hx)
  have hB := cons_two t h0
  rw [hx, h39] at hB
  have hl : ((bytesOf t).drop 2).length = t.size - 2 := by rw [List.length_drop, bytesOf_length]
  have eq0 : quo t 0 = ((⟨#[]⟩ : ByteArray), -1) := by
    unfold quo
    exact if_neg (fun h => by have := h.2; have e : bt t ((0 : Nat) : Int) = bt t 0 := rfl; omega)
  have eq1 : quo t 1 = res [] 2 (Lits.scan ((bytesOf t).drop 2)) := by
    unfold quo
    exact if_pos ⟨h0, h39⟩
  have es : sread t = if (quo t 1).2 = (t.size : Int) then (4, 0, (plain (quo t 1).1).1, if (plain (quo t 1).1).2 = true then decide (((plain (quo t 1).1).1.size : Int) ≤ 60) else false) else (0, 0, ⟨#[]⟩, false) := by
    unfold sread
    rw [if_neg n2, if_neg n3, if_neg n4, if_neg (by rw [n1]; decide), if_neg (by rw [eq0]; rintro ⟨_, b⟩; exact absurd b (by decide))]
    unfold tail
    rw [if_pos ⟨h0, hx⟩]
  by_cases h3 : 3 ≤ t.size
  · have ei : iread t = (4, 0, (plain (t.extract 2 (t.size - 1))).1) := by
      unfold iread
      rw [if_neg n4, if_neg n3, if_pos ⟨⟨h0, hx, h39⟩, h3⟩]
    by_cases hq : ∃ b : ByteArray, (bytesOf t).drop 2 = Lits.hexH (bytesOf b) ++ [39]
    · obtain ⟨b, hb⟩ := hq
      have hsc : Lits.scan ((bytesOf t).drop 2) = some (Lits.hexH (bytesOf b), (Lits.hexH (bytesOf b)).length + 1) := by
        have := Lits.scan_esc (Lits.hexH (bytesOf b))
        rw [hexH_no39] at this
        rw [hb, this]
      rw [hb, List.length_append, List.length_singleton] at hl
      have hr : ∀ x ∈ Lits.hexH (bytesOf b), 0 ≤ x ∧ x < 256 := fun x hx => bytesOf_range t x (by rw [hB, hb]; simp [hx])
      have hq : quo t 1 = (strOfNums (Lits.hexH (bytesOf b)), (t.size : Int)) := by
        rw [eq1, hsc]
        unfold res
        simp only [List.nil_append, Prod.mk.injEq, true_and]
        omega
      have hp : plain (strOfNums (Lits.hexH (bytesOf b))) = (b, true) := by
        unfold plain
        rw [bytesOf_strOfNums _ hr, unh_hexH]
        simp only [strOfNums_bytesOf]
      have hm : t.extract 2 (t.size - 1) = strOfNums (Lits.hexH (bytesOf b)) := by
        refine bytes_inj ?_
        rw [bytesOf_strOfNums _ hr, bytesOf_extract, hb, List.take_append_of_le_length (by omega), List.take_of_length_le (by omega)]
      rw [hq, if_pos rfl] at es
      simp only [hp, if_true] at es
      rw [hm, hp] at ei
      simp only at ei
      have hok := ok_text 4 (.inr rfl) b
      by_cases h60 : b.size ≤ 60
      · refine .inl ⟨?_, ?_, ?_⟩
        · rw [es]
          exact decide_eq_true (by omega)
        · rw [es, ei, decide_eq_true (show (b.size : Int) ≤ 60 by omega)]
        · rw [ei]
          refine ⟨by rw [hok, decide_eq_true h60], ?_⟩
          show hexed b = t
          refine bytes_inj ?_
          rw [hexed_bytes, hB, hb]
      · refine .inr ⟨?_, ?_⟩
        · rw [es]
          exact decide_eq_false (by omega)
        · rw [ei]
          rintro ⟨h, _⟩
          rw [hok, decide_eq_false h60] at h
          cases h
    · refine .inr ⟨?_, ?_⟩
      · rw [es]
        by_cases a : (quo t 1).2 = (t.size : Int)
        · rw [if_pos a]
          show (if (plain (quo t 1).1).2 = true then decide (((plain (quo t 1).1).1.size : Int) ≤ 60) else false) = false
          rw [if_neg]
          intro hp
          refine hq ?_
          rw [eq1] at a hp
          cases hc : Lits.scan ((bytesOf t).drop 2) with
          | none =>
            rw [hc] at a
            unfold res at a
            simp only at a
            omega
          | some p =>
            obtain ⟨s, c⟩ := p
            rw [hc] at a hp
            unfold res at a hp
            simp only [List.nil_append] at a hp
            have hd := (Lits.scan_len _ _ (Nat.le_refl _) s c hc).2 (by omega)
            have hr : ∀ x ∈ s, 0 ≤ x ∧ x < 256 := esc_range (fun x hx => bytesOf_range t x (by rw [hB, hd]; simp [hx]))
            unfold plain at hp
            rw [bytesOf_strOfNums s hr] at hp
            cases hu : Lits.unh s with
            | none =>
              rw [hu] at hp
              cases hp
            | some b =>
              obtain ⟨e1, e2⟩ := Lits.hex_unh _ s (Nat.le_refl _) b hu
              refine ⟨strOfNums b, ?_⟩
              rw [bytesOf_strOfNums b e2, e1, hd, Lits.esc_plain s (Lits.unh_no39 _ s (Nat.le_refl _) b hu)]
        · rw [if_neg a]
      · rw [ei]
        rintro ⟨_, h⟩
        refine hq ⟨(plain (t.extract 2 (t.size - 1))).1, ?_⟩
        have h' : hexed (plain (t.extract 2 (t.size - 1))).1 = t := h
        have := congrArg bytesOf h'
        rw [hexed_bytes, hB] at this
        exact (List.cons.inj (List.cons.inj this).2).2.symm
  · have ei : iread t = (0, 0, ⟨#[]⟩) := by
      unfold iread
      rw [if_neg n4, if_neg n3, if_neg (fun h => h3 h.2), if_neg (fun h => by omega), if_neg (by rw [num_off t n1]; decide)]
    refine .inr ⟨?_, by rw [ei]; exact no_null t n2⟩
    have hd : (bytesOf t).drop 2 = [] := List.drop_eq_nil_of_le (by rw [bytesOf_length]; omega)
    rw [es, eq1, hd, scan_nil, if_neg]
    show ¬ (-1 = (t.size : Int))
    omega
theorem agree (t : ByteArray) (hs : t.size ≤ 65536) : Agree t := by
  by_cases a1 : 0 < t.size ∧ bt t 0 = 39
  · exact agree_single t hs a1.1 a1.2
  by_cases a2 : 1 < t.size ∧ bt t 0 = 120 ∧ bt t 1 = 39
  · exact agree_double t hs a2.1 a2.2.1 a2.2.2
  have ei : iread t = if t.data.toList = Ct then (1, 1, ⟨#[]⟩) else if t.data.toList = Cf then (1, 0, ⟨#[]⟩) else if (num t).2 = true then (2, (num t).1, ⟨#[]⟩) else (0, 0, ⟨#[]⟩) := by
    have b1 : ¬ ((1 < t.size ∧ bt t 0 = 120 ∧ bt t 1 = 39) ∧ 3 ≤ t.size) := fun h => a2 h.1
    have b2 : ¬ ((0 < t.size ∧ bt t 0 = 39) ∧ 2 ≤ t.size) := fun h => a1 h.1
    unfold iread
    simp only [if_neg b1, if_neg b2]
  have word : ∀ l, t.data.toList = l → (⟨l.toArray⟩ : ByteArray) = t := by
    rintro l rfl
    rfl
  by_cases h3 : t.data.toList = Ct
  · have es : sread t = (1, 1, ⟨#[]⟩, true) := by
      unfold sread
      rw [if_neg (by rw [h3]; decide), if_neg (by rw [h3]; decide), if_pos h3]
    rw [if_pos h3] at ei
    refine .inl ⟨by rw [es], by rw [es, ei], ?_⟩
    rw [ei]
    exact ⟨ok_bool 1 (.inr rfl), word _ h3⟩
  rw [if_neg h3] at ei
  by_cases h2 : t.data.toList = Cf
  · have es : sread t = (1, 0, ⟨#[]⟩, true) := by
      unfold sread
      rw [if_neg (by rw [h2]; decide), if_pos h2]
    rw [if_pos h2] at ei
    refine .inl ⟨by rw [es], by rw [es, ei], ?_⟩
    rw [ei]
    exact ⟨ok_bool 0 (.inl rfl), word _ h2⟩
  rw [if_neg h2] at ei
  by_cases h1 : t.data.toList = Cn
  · have es : sread t = (0, 0, ⟨#[]⟩, true) := by
      unfold sread
      rw [if_pos h1]
    rw [if_neg (by rw [num_off t (by rw [h1]; exact numb_word.1)]; decide)] at ei
    refine .inl ⟨by rw [es], by rw [es, ei], ?_⟩
    rw [ei]
    exact ⟨ok_null, word _ h1⟩
  cases hn : Lits.numb t.data.toList with
  | mk v b =>
    cases b with
    | true =>
      obtain ⟨e1, e2, e3, e4⟩ := numb_num t v hn
      have es : sread t = (2, v, ⟨#[]⟩, true) := by
        unfold sread
        rw [if_neg h1, if_neg h2, if_neg h3, hn, if_pos rfl]
      rw [e1, if_pos rfl] at ei
      refine .inl ⟨by rw [es], by rw [es, ei], ?_⟩
      rw [ei]
      exact ⟨ok_num v, word _ e2.symm⟩
    | false =>
      have n1 : (Lits.numb t.data.toList).2 = false := by rw [hn]
      rw [if_neg (by rw [num_off t n1]; decide)] at ei
      refine .inr ⟨?_, by rw [ei]; exact no_null t h1⟩
      have eq0 : quo t 0 = ((⟨#[]⟩ : ByteArray), -1) := by
        unfold quo
        exact if_neg (fun h => a1 h)
      unfold sread
      rw [if_neg h1, if_neg h2, if_neg h3, n1, if_neg (by decide), eq0, if_neg (by rintro ⟨_, b⟩; exact absurd b (by decide))]
      unfold tail
      split
      · rename_i hh
        have eq1 : quo t 1 = ((⟨#[]⟩ : ByteArray), -1) := by
          unfold quo
          exact if_neg (fun h => a2 ⟨hh.1, hh.2, h.2⟩)
        rw [eq1, if_neg]
        show ¬ (-1 = (t.size : Int))
        omega
      · rfl
theorem iread_range (t : ByteArray) : -9223372036854775808 ≤ (iread t).2.1 ∧ (iread t).2.1 ≤ 9223372036854775807 := by
  unfold iread
  split
  · simp
  split
  · simp
  split
  · simp
  split
  · simp
  split
  · rename_i h
    cases hn : num t with
    | mk v b =>
      rw [hn] at h
      simp only at h
      subst h
      have := numb_num t v (num_true t v hn)
      exact this.2.2
  · simp
end Go.Proofs.YtnhfhafbdbmkpaaDoor.BothV
