/- What a law writes into results and reads back: marks, said once for every element type; plain lemmas. -/
import Derived.Test.YtlhmcdafnlcioaaXC2
import Derived.Test.YtlhmcdafnlcioaaHistC
namespace Go.Proofs.Ytlhmcdafnlcioaa.MarkC
open Go Go.RowKit Go.Proofs.Ytlhmcdafnlcioaa.XC Go.Proofs.YtlhmcdafnlcioaaW.PrintWords Go.Proofs.YtlhmcdafnlcioaaW.PrintLast Go.Proofs.YtlhmcdafnlcioaaW.PrintMore Go.Proofs.Ytlhmcdafnlcioaa.Aid Go.Proofs.Ytlhmcdafnlcioaa.Loops Go.Proofs.Ytlhmcdafnlcioaa.HistC
set_option linter.unusedVariables false

/-! A mark's text -/
theorem one_size (n : Int) : (strOfNums [n]).size = 1 := rfl
theorem text_from (d : Nat) : ∀ (a : Int) (t : ByteArray), 0 ≤ a → a ≤ (d : Int) → (t.size : Int) + a ≤ 1099511627776 → ∃ r, Ev (fun k => laws_markText.l0 k a t) r := by
  induction d with
  | zero =>
    intro a t h0 h1 h2
    exact ⟨_, Ev.step (f := fun _ => some _) (fun k => by simp only [laws_markText.l0]; rw [if_neg (by omega), if_pos (by omega)]) (Ev.now _)⟩
  | succ d ih =>
    intro a t h0 h1 h2
    by_cases hp : a > 0
    · have hw : wrap64 (Int.tdiv a 10) = a / 10 := by
        rw [Int.tdiv_eq_ediv_of_nonneg h0, wrap_id (by omega) (by omega)]
      have hs : ((strOfNums [wrap64 (48 + Int.tmod a 10) % 256] ++ t).size : Int) = 1 + t.size := by
        rw [ByteArray.size_append, one_size]
        omega
      obtain ⟨r, hr⟩ := ih (a / 10) (strOfNums [wrap64 (48 + Int.tmod a 10) % 256] ++ t) (by omega) (by omega) (by rw [hs]; omega)
      refine ⟨r, Ev.step (fun k => ?_) hr⟩
      simp only [laws_markText.l0, Option.bind_some]
      rw [if_pos hp, if_pos (by rw [one_size]; omega), hw]
    · exact ⟨_, Ev.step (f := fun _ => some _) (fun k => by simp only [laws_markText.l0]; rw [if_neg hp, if_pos (by omega)]) (Ev.now _)⟩
theorem text_is (a : Int) (h : a ≤ 1073741824) : ∃ r, Ev (fun k => laws_markText.f k a) r := by
  unfold laws_markText.f
  by_cases h0 : a ≤ 0
  · exact ⟨_, Ev.congr (fun _ => if_pos h0) (Ev.now _)⟩
  · obtain ⟨r, hr⟩ := text_from a.toNat a ⟨#[]⟩ (by omega) (by omega) (by show ((0 : Nat) : Int) + a ≤ _; omega)
    exact ⟨r, Ev.congr (fun _ => if_neg h0) hr⟩
open Classical in
noncomputable def mt (a : Int) : ByteArray := if h : ∃ r, Ev (fun k => laws_markText.f k a) r then h.choose else ⟨#[]⟩
theorem mt_ev (a : Int) (h : a ≤ 1073741824) : Ev (fun k => laws_markText.f k a) (mt a) := by
  have hx := text_is a h
  unfold mt
  rw [dif_pos hx]
  exact hx.choose_spec

/-! The loops -/
def stone {β : Type} (mk : Int → β) (s c : Int) (n : Nat) : List β := (List.range n).map fun (i : Nat) => mk (s + c * (i : Int))
theorem stone_get {β : Type} (mk : Int → β) (s c : Int) (n : Nat) (z : β) (i : Nat) (h : i < n) : (stone mk s c n).getD i z = mk (s + c * i) := by
  unfold stone
  simp [List.getD_eq_getElem?_getD, h]
theorem markE {β : Type} (F : Nat → List β → Int → Int → Option (Int × List β)) (n : Nat) (s c : Int) (mk : Int → β) (h0 : 0 ≤ s) (h1 : 0 ≤ c) (hc : s + c * n ≤ 536870912)
    (hF : ∀ (i : Nat) (xs : List β) (a : Int) (r : Int × List β), xs.length = n → i < n → 0 ≤ a → a ≤ 536870912 → Ev (fun k => F k (xs.set i (mk a)) (a + c) ((i + 1 : Nat) : Int)) r → Ev (fun k => F k xs a (i : Int)) r)
    (hE : ∀ (xs : List β) (a : Int), xs.length = n → Ev (fun k => F k xs a (n : Int)) (a, xs)) (xs : List β) (hx : xs.length = n) :
    Ev (fun k => F k xs s 0) (s + c * n, stone mk s c n) := by
  have key : ∀ (d i : Nat) (ys : List β), i + d = n → ys.length = n → ys.take i = stone mk s c i → Ev (fun k => F k ys (s + c * i) (i : Int)) (s + c * n, stone mk s c n) := by
    intro d
    induction d with
    | zero =>
      intro i ys hi hy ht
      obtain rfl : i = n := by omega
      rw [List.take_of_length_le (by omega)] at ht
      rw [← ht]
      exact hE ys _ hy
    | succ d ih =>
      intro i ys hi hy ht
      have hci : c * (i : Int) ≤ c * (n : Int) := Int.mul_le_mul_of_nonneg_left (by omega) h1
      have hc0 : 0 ≤ c * (i : Int) := Int.mul_nonneg h1 (by omega)
      refine hF i ys (s + c * i) _ hy (by omega) (by omega) (by omega) ?_
      have e : s + c * (i : Int) + c = s + c * ((i + 1 : Nat) : Int) := by
        rw [show ((i + 1 : Nat) : Int) = (i : Int) + 1 by omega, Int.mul_add, Int.mul_one]
        omega
      rw [e]
      refine ih (i + 1) _ (by omega) (by simpa using hy) ?_
      unfold stone at ht ⊢
      rw [List.range_succ, List.map_append, ← ht, List.take_succ_eq_append_getElem (by simp; omega), List.take_set_of_le (Nat.le_refl i)]
      simp
  have := key n 0 xs (by omega) hx (by simp [stone])
  simpa using this
theorem heldE (F : Nat → Int → Int → Option Int) (n : Nat) (s c : Int) (h0 : 0 ≤ s) (h1 : 0 ≤ c) (hc : s + c * n ≤ 536870912)
    (hF : ∀ (i : Nat) (r : Int), i < n → s + c * i ≤ 536870912 → 0 ≤ s + c * i → Ev (fun k => F k (s + c * i + c) ((i + 1 : Nat) : Int)) r → Ev (fun k => F k (s + c * i) (i : Int)) r)
    (hE : ∀ a : Int, Ev (fun k => F k a (n : Int)) a) : Ev (fun k => F k s 0) (s + c * n) := by
  have key : ∀ (d i : Nat), i + d = n → Ev (fun k => F k (s + c * i) (i : Int)) (s + c * n) := by
    intro d
    induction d with
    | zero =>
      intro i hi
      obtain rfl : i = n := by omega
      exact hE _
    | succ d ih =>
      intro i hi
      have hci : c * (i : Int) ≤ c * (n : Int) := Int.mul_le_mul_of_nonneg_left (by omega) h1
      have hc0 : 0 ≤ c * (i : Int) := Int.mul_nonneg h1 (by omega)
      refine hF i _ (by omega) (by omega) (by omega) ?_
      have e : s + c * (i : Int) + c = s + c * ((i + 1 : Nat) : Int) := by
        rw [show ((i + 1 : Nat) : Int) = (i : Int) + 1 by omega, Int.mul_add, Int.mul_one]
        omega
      rw [e]
      exact ih (i + 1) (by omega)
  have := key n 0 (by omega)
  simpa using this

/-! Acts, numbers -/
noncomputable def mkH (a : Int) : H := ⟨a, a + 1, mt (a + 2), mt (a + 3)⟩
theorem set_get {β : Type} (xs : List β) (i : Nat) (x z : β) (h : i < xs.length) : (xs.set i x).getD i z = x := by
  simp [List.getD_eq_getElem?_getD, h]
theorem hops_mark (xs : List H) (s : Int) (h0 : 0 ≤ s) (hc : s + 4 * xs.length ≤ 536870912) : Ev (fun k => laws_markHOpS.f k xs s) (s + 4 * xs.length, stone mkH s 4 xs.length) := by
  unfold laws_markHOpS.f
  refine markE (fun k xs a i => laws_markHOpS.l0 k xs a i) xs.length s 4 mkH h0 (by omega) hc (fun i ys a r hy hi ha hb hr => ?_) (fun ys a hy => ?_) xs rfl
  · have g : ∀ (y : H), rd_T129 (ys.set i y) (i : Int) = y := fun y => by
      show (ys.set i y).getD (i : Int).toNat z129 = y
      rw [Int.toNat_natCast]
      exact set_get ys i y z129 (by omega)
    have e1 : wrap64 (a + 1) = a + 1 := wrap_id (by omega) (by omega)
    have e2 : wrap64 (a + 1 + 1) = a + 2 := by rw [wrap_id (by omega) (by omega)]; omega
    have e3 : wrap64 (a + 2 + 1) = a + 3 := by rw [wrap_id (by omega) (by omega)]; omega
    have e4 : wrap64 (a + 3 + 1) = a + 4 := by rw [wrap_id (by omega) (by omega)]; omega
    refine Ev.step (f := fun k => (laws_markText.f k (a + 2)).bind fun t => (laws_markText.f k (a + 3)).bind fun u => laws_markHOpS.l0 k (ys.set i (⟨a, a + 1, t, u⟩ : H)) (a + 4) ((i + 1 : Nat) : Int)) (fun k => ?_) ?_
    · simp only [laws_markHOpS.l0, Option.bind_some]
      rw [if_pos (by omega), if_pos (by omega)]
      simp only [Int.toNat_natCast, List.set_set, g, e1, e2, e3, e4]
      rw [next_ (n := xs.length) hi (by omega)]
    · exact Ev.bind (mt_ev (a + 2) (by omega)) (Ev.bind (mt_ev (a + 3) (by omega)) hr)
  · exact Ev.step (f := fun _ => some (a, ys)) (fun k => by simp only [laws_markHOpS.l0]; rw [if_neg (by omega)]) (Ev.now _)
theorem ints_mark (xs : List Int) (s : Int) (h0 : 0 ≤ s) (hc : s + 1 * xs.length ≤ 536870912) : Ev (fun k => laws_markIntS.f k xs s) (s + 1 * xs.length, stone (fun a => a) s 1 xs.length) := by
  unfold laws_markIntS.f
  refine markE (fun k xs a i => laws_markIntS.l0 k xs a i) xs.length s 1 (fun a => a) h0 (by omega) hc (fun i ys a r hy hi ha hb hr => ?_) (fun ys a hy => ?_) xs rfl
  · refine Ev.step (fun k => ?_) hr
    simp only [laws_markIntS.l0]
    rw [if_pos (by omega), if_pos (by omega), Int.toNat_natCast, wrap_id (x := a + 1) (by omega) (by omega), next_ (n := xs.length) hi (by omega)]
  · exact Ev.step (f := fun _ => some (a, ys)) (fun k => by simp only [laws_markIntS.l0]; rw [if_neg (by omega)]) (Ev.now _)
theorem ints_same (xs : List Int) (hl : xs.length ≤ 1048576) : Ev (fun k => laws_eqIntS.f k xs xs) true := by
  unfold laws_eqIntS.f
  refine Ev.congr (fun k => if_pos rfl) ?_
  exact eqP (fun k i => laws_eqIntS.l0 k xs xs i) xs.length (xs.length : Int) (fun i => rd xs i = rd xs i) (by omega) rfl (fun _ => rfl) (fun _ _ => rfl)
theorem ints_held (n : Nat) (s : Int) (h0 : 0 ≤ s) (hc : s + 1 * n ≤ 536870912) : Ev (fun k => laws_heldIntS.f k (stone (fun a => a) s 1 n) s) (s + 1 * n) := by
  have hl : (stone (fun a : Int => a) s 1 n).length = n := by simp [stone]
  unfold laws_heldIntS.f
  refine heldE (fun k a i => laws_heldIntS.l0 k (stone (fun a => a) s 1 n) a i) n s 1 h0 (by omega) hc (fun i r hi hb ha hr => ?_) (fun a => ?_)
  · have g : rd (stone (fun a : Int => a) s 1 n) (i : Int) = s + 1 * i := by
      show (stone (fun a : Int => a) s 1 n).getD (i : Int).toNat 0 = _
      rw [Int.toNat_natCast]
      exact stone_get (fun a : Int => a) s 1 n 0 i hi
    refine Ev.step (fun k => ?_) hr
    simp only [laws_heldIntS.l0]
    rw [hl, if_pos (by omega), if_pos (by omega), if_pos g, wrap_id (x := s + 1 * (i : Int) + 1) (by omega) (by omega), next_ (n := n) hi (by omega)]
  · exact Ev.step (f := fun _ => some a) (fun k => by simp only [laws_heldIntS.l0]; rw [hl, if_neg (by omega)]) (Ev.now _)
end Go.Proofs.Ytlhmcdafnlcioaa.MarkC
