/- Literals read, on both sides; plain lemmas. -/
import Derived.Test.YtnhfhafbdbmkpaaDoorXV7
import Derived.Test.YtnhfhafbdbmkpaaDoorAid
import Derived.Test.YtnhfhafbdbmkpaaDoorLits
import Derived.Test.YtnhfhafbdbmkpaaDoorTextRV
namespace Go.Proofs.YtnhfhafbdbmkpaaDoor.ReadV
open Go Go.RowKit Go.Proofs.YtnhfhafbdbmkpaaDoor.XV Go.Proofs.YtnhfhafbdbmkpaaDoorW.PrintWords Go.Proofs.YtnhfhafbdbmkpaaDoorW.PrintLast Go.Proofs.YtnhfhafbdbmkpaaDoorW.PrintMore Go.Proofs.YtnhfhafbdbmkpaaDoor.Aid
open Go.Proofs.YtnhfhafbdbmkpaaDoor.TextV (bytesOf_range strOfNums_bytesOf strOfNums_append strOfNums_size drop_bt)
set_option linter.unusedVariables false
set_option linter.unusedSimpArgs false

theorem data_len (t : ByteArray) : t.data.toList.length = t.size := by rw [Array.length_toList]; rfl
theorem drop_u (t : ByteArray) (i : Nat) (h : i < t.size) : ∃ c, t.data.toList.drop i = c :: t.data.toList.drop (i + 1) ∧ (c.toNat : Int) = bt t (i : Int) := by
  have hl : i < t.data.toList.length := by rw [data_len]; exact h
  refine ⟨_, List.drop_eq_getElem_cons hl, ?_⟩
  rw [← bt_at t (i : Int) (by simpa using h)]
  simp
  rfl

/-! A number -/
def one (sg : Int) (l : List UInt8) : Int × Bool := if l = [] ∨ 18 < l.length ∨ (l.head?.map (·.toNat) = some 48 ∧ (1 < l.length ∨ sg < 0)) ∨ l.all Lits.isD = false then (0, false) else (sg * (Lits.F 0 l : Int), true)
theorem num_loop (t : ByteArray) (hs : t.size ≤ 18) (sg : Int) (hg : sg = 1 ∨ sg = -1) : ∀ (d i acc : Nat), i + d = t.size → acc < 10 ^ i →
    Ev (fun k => spec_l00Number.l0 k t sg (acc : Int) (i : Int)) (if (t.data.toList.drop i).all Lits.isD = true then (sg * (Lits.F acc (t.data.toList.drop i) : Int), true) else (0, false)) := by
  intro d
  induction d with
  | zero =>
    intro i acc hi ha
    have hd : t.data.toList.drop i = [] := List.drop_eq_nil_of_le (by rw [data_len]; omega)
    have hb : 10 ^ i ≤ 10 ^ 18 := Nat.pow_le_pow_right (by omega) (by omega)
    have h18 : (10 : Nat) ^ 18 = 1000000000000000000 := by decide
    refine Ev.step (f := fun _ => some (sg * (acc : Int), true)) (fun k => ?_) ?_
    · simp only [spec_l00Number.l0]
      rw [if_neg (by omega), wrap_id (by rcases hg with rfl | rfl <;> omega) (by rcases hg with rfl | rfl <;> omega)]
    · rw [hd]
      exact Ev.now _
  | succ d ih =>
    intro i acc hi ha
    have hlt : i < t.size := by omega
    obtain ⟨c, hd, hc⟩ := drop_u t i hlt
    have hb : 10 ^ i ≤ 10 ^ 17 := Nat.pow_le_pow_right (by omega) (by omega)
    have h17 : (10 : Nat) ^ 17 = 100000000000000000 := by decide
    have hc8 := c.toNat_lt
    by_cases h0 : c.toNat < 48
    · rw [hd, if_neg (by simp [Lits.isD]; omega)]
      refine Ev.step (f := fun _ => some (0, false)) (fun k => ?_) (Ev.now _)
      simp only [spec_l00Number.l0]
      rw [if_pos (by omega), if_pos (by omega), if_pos (by omega)]
    by_cases h1 : c.toNat > 57
    · rw [hd, if_neg (by simp [Lits.isD]; omega)]
      refine Ev.step (f := fun _ => some (0, false)) (fun k => ?_) (Ev.now _)
      simp only [spec_l00Number.l0]
      rw [if_pos (by omega), if_pos (by omega), if_neg (by omega), if_pos (by omega)]
    have hn := ih (i + 1) (acc * 10 + (c.toNat - 48)) (by omega) (by rw [Nat.pow_succ]; omega)
    have he : (if (t.data.toList.drop i).all Lits.isD = true then (sg * (Lits.F acc (t.data.toList.drop i) : Int), true) else ((0, false) : Int × Bool)) =
        (if (t.data.toList.drop (i + 1)).all Lits.isD = true then (sg * (Lits.F (acc * 10 + (c.toNat - 48)) (t.data.toList.drop (i + 1)) : Int), true) else (0, false)) := by
      rw [hd, List.all_cons, show Lits.isD c = true by simp [Lits.isD]; omega, Bool.true_and]
      rfl
    rw [he]
    refine Ev.step (fun k => ?_) hn
    simp only [spec_l00Number.l0]
    rw [if_pos (by omega), if_pos (by omega), if_neg (by omega), if_neg (by omega), ← hc, wrap_id (x := (acc : Int) * 10) (by omega) (by omega), wrap_id (x := (c.toNat : Int)) (by omega) (by omega), wrap_id (x := (acc : Int) * 10 + (c.toNat : Int)) (by omega) (by omega),
      wrap_id (x := (acc : Int) * 10 + (c.toNat : Int) - 48) (by omega) (by omega), wrap_id (x := (i : Int) + 1) (by omega) (by omega)]
    congr 1
    omega
theorem num_one (t : ByteArray) (hs : t.size ≤ 100000) (sg : Int) (hg : sg = 1 ∨ sg = -1) : Ev (fun k => spec_l00Number.j1 k t sg) (one sg t.data.toList) := by
  have hl := data_len t
  have no : Ev (fun k => spec_l00Number.j2 k t sg true) (0, false) := Ev.step (f := fun _ => some (0, false)) (fun k => by simp only [spec_l00Number.j2]; exact if_pos trivial) (Ev.now _)
  unfold one
  by_cases h0 : t.size = 0
  · have hn : t.data.toList = [] := List.eq_nil_of_length_eq_zero (by omega)
    rw [if_pos (.inl hn)]
    exact Ev.step (fun k => by simp only [spec_l00Number.j1]; exact if_pos (by omega)) no
  have hne : t.data.toList ≠ [] := fun e => by rw [e] at hl; simp at hl; omega
  by_cases h18 : 18 < t.size
  · rw [if_pos (.inr (.inl (by omega)))]
    exact Ev.step (fun k => by simp only [spec_l00Number.j1]; rw [if_neg (by omega)]; exact if_pos (by omega)) no
  obtain ⟨c, hd, hc⟩ := drop_u t 0 (by omega)
  rw [List.drop_zero] at hd
  have hc' : (c.toNat : Int) = bt t 0 := hc
  have hhead : t.data.toList.head?.map (·.toNat) = some c.toNat := by rw [hd]; rfl
  have yes : Ev (fun k => spec_l00Number.j2 k t sg false) (if t.data.toList.all Lits.isD = true then (sg * (Lits.F 0 t.data.toList : Int), true) else (0, false)) := by
    have := num_loop t (by omega) sg hg t.size 0 0 (by omega) (by simp)
    rw [List.drop_zero] at this
    exact Ev.step (fun k => by simp only [spec_l00Number.j2, Bool.false_eq_true, if_false] <;> rfl) this
  have tail : ∀ (h : ¬ (t.data.toList.head?.map (·.toNat) = some 48 ∧ (1 < t.data.toList.length ∨ sg < 0))),
      (if t.data.toList = [] ∨ 18 < t.data.toList.length ∨ (t.data.toList.head?.map (·.toNat) = some 48 ∧ (1 < t.data.toList.length ∨ sg < 0)) ∨ t.data.toList.all Lits.isD = false then ((0, false) : Int × Bool) else (sg * (Lits.F 0 t.data.toList : Int), true)) =
      (if t.data.toList.all Lits.isD = true then (sg * (Lits.F 0 t.data.toList : Int), true) else (0, false)) := fun h => by
    cases ha : t.data.toList.all Lits.isD with
    | true => rw [if_neg (by simp only [not_or]; exact ⟨hne, by omega, h, by simp⟩), if_pos rfl]
    | false => rw [if_pos (.inr (.inr (.inr rfl))), if_neg (by simp)]
  by_cases h48 : c.toNat = 48
  · by_cases h1 : 1 < t.size
    · rw [if_pos (.inr (.inr (.inl ⟨by rw [hhead, h48], .inl (by omega)⟩)))]
      exact Ev.step (fun k => by simp only [spec_l00Number.j1]; rw [if_neg (by omega), if_neg (by omega), if_pos (by omega), if_pos (by omega)]; exact if_pos (by omega)) no
    · by_cases hneg : sg < 0
      · rw [if_pos (.inr (.inr (.inl ⟨by rw [hhead, h48], .inr hneg⟩)))]
        refine Ev.step (fun k => ?_) no
        simp only [spec_l00Number.j1]
        rw [if_neg (by omega), if_neg (by omega), if_pos (by omega), if_pos (by omega), if_neg (by omega), decide_eq_true hneg]
      · rw [tail (fun h => by rcases h.2 with h | h <;> omega)]
        refine Ev.step (fun k => ?_) yes
        simp only [spec_l00Number.j1]
        rw [if_neg (by omega), if_neg (by omega), if_pos (by omega), if_pos (by omega), if_neg (by omega), decide_eq_false hneg]
  · rw [tail (fun h => by rw [hhead] at h; exact h48 (Option.some.inj h.1))]
    refine Ev.step (fun k => ?_) yes
    simp only [spec_l00Number.j1]
    rw [if_neg (by omega), if_neg (by omega), if_pos (by omega), if_neg (by omega)]
theorem spec_number (t : ByteArray) (hs : t.size ≤ 65536) : Ev (fun k => spec_l00Number.f k t) (Lits.numb t.data.toList) := by
  have hl := data_len t
  unfold spec_l00Number.f
  by_cases h0 : t.size = 0
  · have hn : t.data.toList = [] := List.eq_nil_of_length_eq_zero (by omega)
    refine Ev.congr (fun _ => if_neg (by omega)) ?_
    have h := num_one t (by omega) 1 (.inl rfl)
    have e : one 1 t.data.toList = Lits.numb t.data.toList := by rw [hn]; rfl
    rw [e] at h
    exact Ev.step (fun k => by simp only [spec_l00Number.j0, Bool.false_eq_true, if_false] <;> rfl) h
  refine Ev.congr (fun _ => if_pos (by omega)) (Ev.congr (fun _ => if_pos (by omega)) ?_)
  obtain ⟨c, hd, hc⟩ := drop_u t 0 (by omega)
  rw [List.drop_zero] at hd
  have hc' : (c.toNat : Int) = bt t 0 := hc
  by_cases h45 : c.toNat = 45
  · have hb : (bt t 0 == 45) = true := beq_iff_eq.2 (by omega)
    rw [hb]
    have h := num_one (t.extract 1 t.size) (by rw [ByteArray.size_extract]; omega) (-1) (.inr rfl)
    have hx : (t.extract 1 t.size).data.toList = t.data.toList.drop 1 := by
      rw [ByteArray.data_extract, Array.toList_extract, List.extract, List.take_of_length_le (by rw [List.length_drop, hl]; exact Nat.le_refl _)]
    have e : one (-1) (t.extract 1 t.size).data.toList = Lits.numb t.data.toList := by
      rw [hx, hd]
      unfold one Lits.numb
      simp only [List.drop_succ_cons, List.drop_zero]
      rw [if_pos h45]
      simp only [show ((-1 : Int) < 0) = True from eq_true (by decide), or_true, and_true, Int.neg_mul, Int.one_mul]
    rw [e] at h
    refine Ev.step (fun k => ?_) h
    simp only [spec_l00Number.j0]
    rw [if_pos trivial, if_pos (by omega)]
  · have hb : (bt t 0 == 45) = false := beq_eq_false_iff_ne.2 (by omega)
    rw [hb]
    have h := num_one t (by omega) 1 (.inl rfl)
    have e : one 1 t.data.toList = Lits.numb t.data.toList := by
      rw [hd]
      unfold one Lits.numb
      simp only
      rw [if_neg h45]
      have p : ((c :: t.data.toList.drop (0 + 1) = [] ∨ 18 < (c :: t.data.toList.drop (0 + 1)).length ∨ ((c :: t.data.toList.drop (0 + 1)).head?.map (·.toNat) = some 48 ∧ (1 < (c :: t.data.toList.drop (0 + 1)).length ∨ (1 : Int) < 0)) ∨ (c :: t.data.toList.drop (0 + 1)).all Lits.isD = false) ↔
          (18 < (c :: t.data.toList.drop (0 + 1)).length ∨ (c.toNat = 48 ∧ t.data.toList.drop (0 + 1) ≠ []) ∨ (c :: t.data.toList.drop (0 + 1)).all Lits.isD = false)) := by
        have q : (1 < (c :: t.data.toList.drop (0 + 1)).length ∨ (1 : Int) < 0) ↔ t.data.toList.drop (0 + 1) ≠ [] := by
          rw [List.length_cons]
          constructor
          · rintro (h | h)
            · intro e
              rw [e] at h
              simp at h
            · omega
          · intro h
            exact .inl (by have := List.length_pos_iff.mpr h; omega)
        simp only [List.head?_cons, Option.map_some, Option.some.injEq, q]
        simp
      simp only [p, Int.one_mul]
    rw [e] at h
    exact Ev.step (fun k => by simp only [spec_l00Number.j0, Bool.false_eq_true, if_false] <;> rfl) h

/-! A quoted text -/
theorem scan_nil : Lits.scan [] = none := rfl
theorem scan_two (r : List Int) : Lits.scan (39 :: 39 :: r) = (Lits.scan r).map fun p => (39 :: p.1, p.2 + 2) := by
  conv => lhs; unfold Lits.scan
  rw [if_pos rfl]
  simp only [if_true]
theorem scan_end (y : Int) (r : List Int) (h : y ≠ 39) : Lits.scan (39 :: y :: r) = some ([], 1) := by
  conv => lhs; unfold Lits.scan
  rw [if_pos rfl]
  simp only
  rw [if_neg h]
theorem scan_last : Lits.scan [39] = some ([], 1) := rfl
theorem scan_ne (x : Int) (r : List Int) (h : x ≠ 39) : Lits.scan (x :: r) = (Lits.scan r).map fun p => (x :: p.1, p.2 + 1) := by
  conv => lhs; unfold Lits.scan
  rw [if_neg h]
def res (acc : List Int) (i : Nat) (o : Option (List Int × Nat)) : ByteArray × Int := match o with | none => ((⟨#[]⟩ : ByteArray), -1) | some p => (strOfNums (acc ++ p.1), ((i + p.2 : Nat) : Int))
theorem res_map (acc : List Int) (i : Nat) (x : Int) (n : Nat) (o : Option (List Int × Nat)) : res acc i (o.map fun p => (x :: p.1, p.2 + n)) = res (acc ++ [x]) (i + n) o := by
  cases o with
  | none => rfl
  | some p =>
    simp only [Option.map_some, res, List.append_assoc, List.cons_append, List.nil_append]
    congr 2
    omega
theorem quoted_loop (t : ByteArray) (hs : t.size ≤ 65536) : ∀ (d i : Nat) (acc : List Int), t.size - i ≤ d → acc.length ≤ i →
    Ev (fun k => spec_l01Quoted.l0 k t acc (i : Int)) (res acc i (Lits.scan ((bytesOf t).drop i))) := by
  intro d
  induction d with
  | zero =>
    intro i acc hi hacc
    have hd : (bytesOf t).drop i = [] := List.drop_eq_nil_of_le (by rw [bytesOf_length]; omega)
    rw [hd]
    refine Ev.step (f := fun _ => some ((⟨#[]⟩ : ByteArray), -1)) (fun k => ?_) (Ev.now _)
    simp only [spec_l01Quoted.l0]
    rw [if_neg (by omega)]
  | succ d ih =>
    intro i acc hi hacc
    by_cases hlt : i < t.size
    · have hd := drop_bt t i hlt
      have hw : wrap64 ((i : Int) + 1) = ((i + 1 : Nat) : Int) := by
        rw [wrap_id (by omega) (by omega)]
        omega
      obtain ⟨x, hx⟩ : ∃ x, x = bt t (i : Int) := ⟨_, rfl⟩
      rw [← hx] at hd
      rw [hd]
      by_cases h39 : x = 39
      · subst h39
        by_cases hlt2 : i + 1 < t.size
        · have hd2 := drop_bt t (i + 1) hlt2
          obtain ⟨y, hy⟩ : ∃ y, y = bt t ((i + 1 : Nat) : Int) := ⟨_, rfl⟩
          rw [← hy] at hd2
          rw [hd2]
          have hw2 : wrap64 (((i + 1 : Nat) : Int) + 1) = ((i + 2 : Nat) : Int) := by
            rw [wrap_id (by omega) (by omega)]
            omega
          by_cases h39' : y = 39
          · subst h39'
            have hn := ih (i + 2) (acc ++ [39]) (by omega) (by simp; omega)
            rw [scan_two, res_map]
            refine Ev.step (fun k => ?_) hn
            simp only [spec_l01Quoted.l0]
            rw [if_pos (by omega), if_pos (by omega), if_pos (by omega), hw, if_pos (by omega), if_pos (by omega), if_pos (by omega), if_pos (by omega), hw2]
          · rw [scan_end _ _ h39']
            refine Ev.step (f := fun _ => some (strOfNums acc, ((i + 1 : Nat) : Int))) (fun k => ?_) (by simp only [res, List.append_nil]; exact Ev.now _)
            simp only [spec_l01Quoted.l0]
            rw [if_pos (by omega), if_pos (by omega), if_pos (by omega), hw, if_pos (by omega), if_pos (by omega), if_neg (by omega)]
        · have hd2 : (bytesOf t).drop (i + 1) = [] := List.drop_eq_nil_of_le (by rw [bytesOf_length]; omega)
          rw [hd2, scan_last]
          refine Ev.step (f := fun _ => some (strOfNums acc, ((i + 1 : Nat) : Int))) (fun k => ?_) (by simp only [res, List.append_nil]; exact Ev.now _)
          simp only [spec_l01Quoted.l0]
          rw [if_pos (by omega), if_pos (by omega), if_pos (by omega), hw, if_neg (by omega)]
      · have hn := ih (i + 1) (acc ++ [x]) (by omega) (by simp; omega)
        rw [scan_ne _ _ h39, res_map]
        refine Ev.step (fun k => ?_) hn
        simp only [spec_l01Quoted.l0]
        rw [if_pos (by omega), if_pos (by omega), ← hx, if_neg h39, if_pos (by omega), hw]
    · have hd : (bytesOf t).drop i = [] := List.drop_eq_nil_of_le (by rw [bytesOf_length]; omega)
      rw [hd]
      refine Ev.step (f := fun _ => some ((⟨#[]⟩ : ByteArray), -1)) (fun k => ?_) (Ev.now _)
      simp only [spec_l01Quoted.l0]
      rw [if_neg (by omega)]
def quo (t : ByteArray) (at_ : Nat) : ByteArray × Int := if at_ < t.size ∧ bt t (at_ : Int) = 39 then res [] (at_ + 1) (Lits.scan ((bytesOf t).drop (at_ + 1))) else ((⟨#[]⟩ : ByteArray), -1)
theorem spec_quoted (t : ByteArray) (hs : t.size ≤ 65536) (a : Nat) (ha : a ≤ 1) : Ev (fun k => spec_l01Quoted.f k t (a : Int)) (quo t a) := by
  unfold spec_l01Quoted.f quo
  by_cases h : a < t.size
  · refine Ev.congr (fun _ => if_neg (by omega)) (Ev.congr (fun _ => if_pos (by omega)) (Ev.congr (fun _ => if_pos (by omega)) ?_))
    by_cases h39 : bt t (a : Int) = 39
    · rw [if_pos ⟨h, h39⟩]
      have hb : (bt t (a : Int) != 39) = false := by simp [h39]
      rw [hb]
      have hw : wrap64 ((a : Int) + 1) = ((a + 1 : Nat) : Int) := by
        rw [wrap_id (by omega) (by omega)]
        omega
      have hq := quoted_loop t hs t.size (a + 1) [] (by omega) (by simp)
      exact Ev.step (fun k => by simp only [spec_l01Quoted.j0, Bool.false_eq_true, if_false, hw] <;> rfl) hq
    · rw [if_neg (fun h => h39 h.2)]
      have hb : (bt t (a : Int) != 39) = true := by simp [h39]
      rw [hb]
      exact Ev.step (f := fun _ => some ((⟨#[]⟩ : ByteArray), -1)) (fun k => by simp only [spec_l01Quoted.j0] <;> rfl) (Ev.now _)
  · rw [if_neg (fun h' => h h'.1)]
    refine Ev.congr (fun _ => if_pos (by omega)) ?_
    exact Ev.step (f := fun _ => some ((⟨#[]⟩ : ByteArray), -1)) (fun k => by simp only [spec_l01Quoted.j0] <;> rfl) (Ev.now _)

/-! Hexadecimal digits -/
theorem spec_nib (x : Int) (h0 : 0 ≤ x) (h1 : x < 256) : Ev (fun k => spec_l01Nibble.f k x) ((Lits.nib x).getD (-1)) := by
  unfold spec_l01Nibble.f Lits.nib
  by_cases h : x ≥ 48
  · refine Ev.congr (fun _ => if_pos h) ?_
    by_cases h9 : x ≤ 57
    · rw [if_pos ⟨h, h9⟩, decide_eq_true h9]
      refine Ev.step (f := fun _ => some (x - 48)) (fun k => ?_) (Ev.now _)
      simp only [spec_l01Nibble.j0]
      rw [if_pos trivial, wrap_id (x := x) (by omega) (by omega), wrap_id (x := x - 48) (by omega) (by omega)]
    · rw [if_neg (fun h' => h9 h'.2), decide_eq_false h9]
      by_cases ha : 97 ≤ x ∧ x ≤ 102
      · rw [if_pos ha]
        refine Ev.step (f := fun _ => some (x - 87)) (fun k => ?_) (Ev.now _)
        simp only [spec_l01Nibble.j0, Bool.false_eq_true, if_false]
        rw [if_pos (by omega), if_pos ha.2, wrap_id (x := x) (by omega) (by omega), wrap_id (x := x - 97) (by omega) (by omega), wrap_id (x := x - 97 + 10) (by omega) (by omega)]
        congr 1
        omega
      · rw [if_neg ha]
        refine Ev.step (f := fun _ => some (-1)) (fun k => ?_) (Ev.now _)
        simp only [spec_l01Nibble.j0, Bool.false_eq_true, if_false]
        by_cases h97 : x ≥ 97
        · rw [if_pos h97, if_neg (fun h' => ha ⟨h97, h'⟩)]
        · rw [if_neg h97]
  · refine Ev.congr (fun _ => if_neg h) ?_
    rw [if_neg (by omega), if_neg (by omega)]
    refine Ev.step (f := fun _ => some (-1)) (fun k => ?_) (Ev.now _)
    simp only [spec_l01Nibble.j0, Bool.false_eq_true, if_false]
    rw [if_neg (by omega)]
theorem impl_nib (x : Int) (h0 : 0 ≤ x) (h1 : x < 256) : Ev (fun k => impl_hexDigit.f k x) ((Lits.nib x).getD 16) := by
  unfold impl_hexDigit.f Lits.nib
  by_cases h : x ≥ 48
  · refine Ev.congr (fun _ => if_pos h) ?_
    by_cases h9 : x ≤ 57
    · rw [if_pos ⟨h, h9⟩, decide_eq_true h9]
      refine Ev.step (f := fun _ => some (x - 48)) (fun k => ?_) (Ev.now _)
      simp only [impl_hexDigit.j0]
      rw [if_pos trivial]
      congr 1
      omega
    · rw [if_neg (fun h' => h9 h'.2), decide_eq_false h9]
      by_cases ha : 97 ≤ x ∧ x ≤ 102
      · rw [if_pos ha]
        refine Ev.step (f := fun _ => some (x - 87)) (fun k => ?_) (Ev.now _)
        simp only [impl_hexDigit.j0, Bool.false_eq_true, if_false]
        rw [if_pos (by omega), if_pos ha.2]
        congr 1
        omega
      · rw [if_neg ha]
        refine Ev.step (f := fun _ => some 16) (fun k => ?_) (Ev.now _)
        simp only [impl_hexDigit.j0, Bool.false_eq_true, if_false]
        by_cases h97 : x ≥ 97
        · rw [if_pos h97, if_neg (fun h' => ha ⟨h97, h'⟩)]
        · rw [if_neg h97]
  · refine Ev.congr (fun _ => if_neg h) ?_
    rw [if_neg (by omega), if_neg (by omega)]
    refine Ev.step (f := fun _ => some 16) (fun k => ?_) (Ev.now _)
    simp only [impl_hexDigit.j0, Bool.false_eq_true, if_false]
    rw [if_neg (by omega)]
theorem nib_range {x j : Int} (h : Lits.nib x = some j) : 0 ≤ j ∧ j < 16 := ⟨(Lits.H_nib x j h).1, (Lits.H_nib x j h).2.1⟩
theorem or_join (a b : Int) (a0 : 0 ≤ a) (a1 : a < 16) (b0 : 0 ≤ b) (b1 : b < 16) : Go.bits .or .u8 ((a * 16) % 256) b = 16 * a + b := by
  have hw : ∀ n : Int, 0 ≤ n → n < 2 ^ 8 → IntKind.u8.wrap n = n := fun n h0 h1 => by rw [IntKind.wrap_u8]; omega
  have h := bits_join .u8 8 (by decide) hw 4 (a * 16) b (by omega) (by omega) (by omega) b0 (by omega) (by omega)
  rw [show a * 16 % 256 = a * 16 by omega, h]
  omega
def plain (t : ByteArray) : ByteArray × Bool := match Lits.unh (bytesOf t) with | none => ((⟨#[]⟩ : ByteArray), false) | some b => (strOfNums b, true)
theorem unh_odd : ∀ (n : Nat) (m : List Int), m.length ≤ n → m.length % 2 = 1 → Lits.unh m = none
  | 0, m, hm, ho => by omega
  | n + 1, [], hm, ho => by simp at ho
  | n + 1, [x], hm, ho => rfl
  | n + 1, x :: y :: r, hm, ho => by
    unfold Lits.unh
    rw [unh_odd n r (by simp at hm; omega) (by simp at ho; omega)]
    cases Lits.nib x <;> cases Lits.nib y <;> rfl
theorem two_next (t : ByteArray) (i : Nat) (h : i + 1 < t.size) (acc : List Int) (x y : Int) (hx : x = bt t (i : Int)) (hy : y = bt t ((i + 1 : Nat) : Int)) :
    (match Lits.unh ((bytesOf t).drop i) with | none => ((⟨#[]⟩ : ByteArray), false) | some b => (strOfNums (acc ++ b), true)) =
    (match Lits.nib x, Lits.nib y with | some a, some b => (match Lits.unh ((bytesOf t).drop (i + 2)) with | none => ((⟨#[]⟩ : ByteArray), false) | some l => (strOfNums (acc ++ [16 * a + b] ++ l), true)) | _, _ => ((⟨#[]⟩ : ByteArray), false)) := by
  rw [drop_bt t i (by omega), drop_bt t (i + 1) h, ← hx, ← hy]
  conv => lhs; unfold Lits.unh
  cases Lits.nib x with
  | none => rfl
  | some a =>
    cases Lits.nib y with
    | none => rfl
    | some b =>
      simp only [Option.bind_some]
      cases Lits.unh ((bytesOf t).drop (i + 1 + 1)) with
      | none => rfl
      | some l => simp
theorem plain_loop (t : ByteArray) (hs : t.size ≤ 65536) : ∀ (d i : Nat) (acc : List Int), i + 2 * d = t.size → acc.length ≤ i →
    Ev (fun k => spec_l01Plain.l0 k t acc (i : Int)) (match Lits.unh ((bytesOf t).drop i) with | none => ((⟨#[]⟩ : ByteArray), false) | some b => (strOfNums (acc ++ b), true)) := by
  intro d
  induction d with
  | zero =>
    intro i acc hi hacc
    have hd : (bytesOf t).drop i = [] := List.drop_eq_nil_of_le (by rw [bytesOf_length]; omega)
    rw [hd]
    refine Ev.step (f := fun _ => some (strOfNums acc, true)) (fun k => ?_) (by simp only [Lits.unh, List.append_nil]; exact Ev.now _)
    simp only [spec_l01Plain.l0]
    rw [if_neg (by omega)]
  | succ d ih =>
    intro i acc hi hacc
    have hw : wrap64 ((i : Int) + 1) = ((i + 1 : Nat) : Int) := by
      rw [wrap_id (by omega) (by omega)]
      omega
    have hw2 : wrap64 ((i : Int) + 2) = ((i + 2 : Nat) : Int) := by
      rw [wrap_id (by omega) (by omega)]
      omega
    obtain ⟨x, hx⟩ : ∃ x, x = bt t (i : Int) := ⟨_, rfl⟩
    obtain ⟨y, hy⟩ : ∃ y, y = bt t ((i + 1 : Nat) : Int) := ⟨_, rfl⟩
    have rx := bt_range t (i : Int)
    have ry := bt_range t ((i + 1 : Nat) : Int)
    rw [← hx] at rx
    rw [← hy] at ry
    rw [two_next t i (by omega) acc x y hx hy]
    refine Ev.step (f := fun k => (spec_l01Nibble.f k x).bind fun a => (spec_l01Nibble.f k y).bind fun b => if a < 0 then some ((⟨#[]⟩ : ByteArray), false) else if b < 0 then some ((⟨#[]⟩ : ByteArray), false) else if acc.length < 140737488355328 then spec_l01Plain.l0 k t (acc ++ [(wrap64 ((wrap64 (16 * a)) + b)) % 256]) ((i + 2 : Nat) : Int) else none) (fun k => ?_) ?_
    · simp only [spec_l01Plain.l0]
      rw [if_pos (by omega), if_pos (by omega), ← hx, hw, ← hy, hw2]
      congr 1
      funext a
      rw [if_pos (by omega), if_pos (by omega)]
    · refine Ev.bind (spec_nib x (by omega) (by omega)) (Ev.bind (spec_nib y (by omega) (by omega)) ?_)
      cases hnx : Lits.nib x with
      | none => exact Ev.congr (fun _ => if_pos (by decide)) (Ev.now _)
      | some a =>
        have ra := nib_range hnx
        refine Ev.congr (fun _ => if_neg (by simp; omega)) ?_
        cases hny : Lits.nib y with
        | none => exact Ev.congr (fun _ => if_pos (by decide)) (Ev.now _)
        | some b =>
          have rb := nib_range hny
          refine Ev.congr (fun _ => if_neg (by simp; omega)) (Ev.congr (fun _ => if_pos (by omega)) ?_)
          have e : wrap64 (wrap64 (16 * a) + b) % 256 = 16 * a + b := by
            rw [wrap_id (x := 16 * a) (by omega) (by omega), wrap_id (x := 16 * a + b) (by omega) (by omega)]
            omega
          simp only [Option.getD_some, e]
          exact ih (i + 2) (acc ++ [16 * a + b]) (by omega) (by simp; omega)
theorem spec_plain (t : ByteArray) (hs : t.size ≤ 65536) : Ev (fun k => spec_l01Plain.f k t) (plain t) := by
  unfold spec_l01Plain.f plain
  by_cases ho : t.size % 2 = 1
  · rw [unh_odd _ _ (Nat.le_refl _) (by rw [bytesOf_length]; exact ho)]
    exact Ev.congr (fun _ => if_pos (by omega)) (Ev.now _)
  · refine Ev.congr (fun _ => if_neg (by omega)) ?_
    have := plain_loop t hs (t.size / 2) 0 [] (by omega) (by simp)
    simp only [List.drop_zero, List.nil_append] at this
    exact this
theorem hex_loop (t : ByteArray) (hs : t.size ≤ 65536) : ∀ (d i : Nat) (acc : List Int), i + 2 * d = t.size → acc.length ≤ i →
    Ev (fun k => impl_readHex.l0 k t acc (i : Int)) (match Lits.unh ((bytesOf t).drop i) with | none => ((⟨#[]⟩ : ByteArray), false) | some b => (strOfNums (acc ++ b), true)) := by
  intro d
  induction d with
  | zero =>
    intro i acc hi hacc
    have hd : (bytesOf t).drop i = [] := List.drop_eq_nil_of_le (by rw [bytesOf_length]; omega)
    rw [hd]
    refine Ev.step (f := fun _ => some (strOfNums acc, true)) (fun k => ?_) (by simp only [Lits.unh, List.append_nil]; exact Ev.now _)
    simp only [impl_readHex.l0]
    rw [if_neg (by omega)]
  | succ d ih =>
    intro i acc hi hacc
    have hw : wrap64 ((i : Int) + 1) = ((i + 1 : Nat) : Int) := by
      rw [wrap_id (by omega) (by omega)]
      omega
    have hw2 : wrap64 ((i : Int) + 2) = ((i + 2 : Nat) : Int) := by
      rw [wrap_id (by omega) (by omega)]
      omega
    obtain ⟨x, hx⟩ : ∃ x, x = bt t (i : Int) := ⟨_, rfl⟩
    obtain ⟨y, hy⟩ : ∃ y, y = bt t ((i + 1 : Nat) : Int) := ⟨_, rfl⟩
    have rx := bt_range t (i : Int)
    have ry := bt_range t ((i + 1 : Nat) : Int)
    rw [← hx] at rx
    rw [← hy] at ry
    rw [two_next t i (by omega) acc x y hx hy]
    refine Ev.step (f := fun k => (impl_hexDigit.f k x).bind fun a => (impl_hexDigit.f k y).bind fun b => if a = 16 then some ((⟨#[]⟩ : ByteArray), false) else if b = 16 then some ((⟨#[]⟩ : ByteArray), false) else if acc.length < 140737488355328 then impl_readHex.l0 k t (acc ++ [Go.bits .or .u8 ((a * 16) % 256) b]) ((i + 2 : Nat) : Int) else none) (fun k => ?_) ?_
    · simp only [impl_readHex.l0]
      rw [if_pos (by omega), if_pos (by omega), ← hx, hw, ← hy, hw2]
      congr 1
      funext a
      rw [if_pos (by omega), if_pos (by omega)]
    · refine Ev.bind (impl_nib x (by omega) (by omega)) (Ev.bind (impl_nib y (by omega) (by omega)) ?_)
      cases hnx : Lits.nib x with
      | none => exact Ev.congr (fun _ => if_pos rfl) (Ev.now _)
      | some a =>
        have ra := nib_range hnx
        refine Ev.congr (fun _ => if_neg (by simp; omega)) ?_
        cases hny : Lits.nib y with
        | none => exact Ev.congr (fun _ => if_pos rfl) (Ev.now _)
        | some b =>
          have rb := nib_range hny
          refine Ev.congr (fun _ => if_neg (by simp; omega)) (Ev.congr (fun _ => if_pos (by omega)) ?_)
          simp only [Option.getD_some, or_join a b ra.1 ra.2 rb.1 rb.2]
          exact ih (i + 2) (acc ++ [16 * a + b]) (by omega) (by simp; omega)
theorem impl_plain (t : ByteArray) (hs : t.size ≤ 65536) : Ev (fun k => impl_readHex.f k t) (plain t) := by
  unfold impl_readHex.f plain
  by_cases ho : t.size % 2 = 1
  · rw [unh_odd _ _ (Nat.le_refl _) (by rw [bytesOf_length]; exact ho)]
    exact Ev.congr (fun _ => if_pos (by omega)) (Ev.now _)
  · have hw : wrap64 ((t.size : Int) / 2) = (t.size : Int) / 2 := wrap_id (by omega) (by omega)
    rw [hw]
    refine Ev.congr (fun _ => if_neg (by omega)) (Ev.congr (fun _ => if_pos (by omega)) (Ev.congr (fun _ => if_pos (by omega)) ?_))
    have := hex_loop t hs (t.size / 2) 0 [] (by omega) (by simp)
    simp only [List.drop_zero, List.nil_append] at this
    exact this
end Go.Proofs.YtnhfhafbdbmkpaaDoor.ReadV
