/- For all rows within the law's size the program's RowText answers what the reference's answers, the row left alone; no condition. -/
import Derived.Test.YtnhfhafbdbmkpaaDoorXOpenFnExactRowText
import Derived.Test.YtnhfhafbdbmkpaaDoorListX
import Derived.Test.YtnhfhafbdbmkpaaDoorTextX
import Derived.Lib.Join
namespace Go.Proofs.YtnhfhafbdbmkpaaDoor.fnExactRowText.Pure
open Go Go.RowKit Go.Proofs.YtnhfhafbdbmkpaaDoor.XX Go.Proofs.YtnhfhafbdbmkpaaDoorW.PrintWords Go.Proofs.YtnhfhafbdbmkpaaDoorW.PrintLast Go.Proofs.YtnhfhafbdbmkpaaDoorW.PrintMore Go.Proofs.YtnhfhafbdbmkpaaDoor.Opn
open Go.Proofs.YtnhfhafbdbmkpaaDoor.Xtra Go.Proofs.YtnhfhafbdbmkpaaDoor.Aid Go.Proofs.YtnhfhafbdbmkpaaDoor.ListX Go.Proofs.YtnhfhafbdbmkpaaDoor.TextX

/-- A text of some bytes. -/
def BA (xs : List UInt8) : ByteArray := ⟨xs.toArray⟩
theorem BA_self (s : ByteArray) : BA s.data.toList = s := by unfold BA; rw [Array.toArray_toList]
theorem BA_append (xs ys : List UInt8) : BA xs ++ BA ys = BA (xs ++ ys) := by
  apply ByteArray.ext
  rw [ByteArray.data_append]
  simp [BA]
theorem BA_size (xs : List UInt8) : (BA xs).size = xs.length := by simp [BA, ByteArray.size]
def L (v : S39) : List UInt8 := (lit v.f0 v.f1 v.f2).data.toList
theorem L_self (v : S39) : BA (L v) = lit v.f0 v.f1 v.f2 := BA_self _
def good (v : S39) : Prop := okV v = true ∧ -9223372036854775808 ≤ v.f1 ∧ v.f1 ≤ 9223372036854775807
theorem good_ok {v : S39} (h : good v) : impl_ValueOK.f v.f0 v.f1 v.f2 = some true := by rw [okV_impl, h.1]
theorem L_len {v : S39} (h : good v) : (L v).length ≤ 123 := by
  have := lit_size v.f0 v.f1 v.f2 h.2.1 h.2.2 (good_ok h)
  have hz : (L v).length = (lit v.f0 v.f1 v.f2).size := by unfold L; rw [Array.length_toList]; rfl
  omega
def sep : List UInt8 := [44, 32]
theorem tail_len : ∀ xs : List S39, (∀ v ∈ xs, good v) → (Lib.joinTail sep (xs.map L)).length ≤ 125 * xs.length
  | [], _ => by simp [Lib.joinTail]
  | v :: xs, h => by
    have h1 := L_len (h v (by simp))
    have h2 := tail_len xs (fun x hx => h x (by simp [hx]))
    have e : Lib.joinTail sep ((v :: xs).map L) = sep ++ L v ++ Lib.joinTail sep (xs.map L) := by simp [Lib.joinTail]
    rw [e]
    simp [sep] at h2 ⊢
    omega
theorem join_len (xs : List S39) (h : ∀ v ∈ xs, good v) : (Lib.join (xs.map L) sep).length ≤ 125 * xs.length := by
  cases xs with
  | nil => simp [Lib.join_nil]
  | cons v xs =>
    rw [List.map_cons, Lib.join_cons, List.length_append]
    have h1 := L_len (h v (by simp))
    have h2 := tail_len xs (fun x hx => h x (by simp [hx]))
    simp only [List.length_cons]
    omega

theorem spec_tail (l : List S39) (hl : l.length ≤ 8) (hg : ∀ v ∈ l, good v) : ∀ (d i : Nat) (acc : List UInt8), i + d = l.length → 1 ≤ i → acc.length ≤ 1 + 125 * i →
    Ev (fun k => spec_l01RowText.l0 k l (BA acc) (i : Int)) (BA (acc ++ Lib.joinTail sep ((l.drop i).map L) ++ [41])) := by
  intro d
  induction d with
  | zero =>
    intro i acc hi h1 hacc
    refine Ev.step (f := fun _ => some (BA (acc ++ Lib.joinTail sep ((l.drop i).map L) ++ [41]))) (fun k => ?_) (Ev.now _)
    simp only [spec_l01RowText.l0]
    rw [if_neg (by omega), if_pos (by rw [BA_size]; omega), List.drop_eq_nil_of_le (by omega), show (⟨#[41]⟩ : ByteArray) = BA [41] from rfl, BA_append]
    simp [Lib.joinTail]
  | succ d ih =>
    intro i acc hi h1 hacc
    have hil : i < l.length := by omega
    obtain ⟨v, hv⟩ : ∃ v, v = l[i] := ⟨_, rfl⟩
    have hr : rd_T39 l (i : Int) = v := by rw [rd27 l i hil, hv]
    have hgv : good v := by rw [hv]; exact hg _ (List.getElem_mem _)
    have hd : l.drop i = v :: l.drop (i + 1) := by rw [hv]; exact List.drop_eq_getElem_cons hil
    have hL := L_len hgv
    have hw : wrap64 ((i : Int) + 1) = ((i + 1 : Nat) : Int) := by
      rw [wrap_id (by omega) (by omega)]
      omega
    have hn := ih (i + 1) (acc ++ sep ++ L v) (by omega) (by omega) (by simp [sep] at hL ⊢; omega)
    have e : acc ++ sep ++ L v ++ Lib.joinTail sep ((l.drop (i + 1)).map L) ++ [41] = acc ++ Lib.joinTail sep ((l.drop i).map L) ++ [41] := by
      rw [hd]
      simp [Lib.joinTail]
    rw [← e]
    have hs : (⟨#[44, 32]⟩ : ByteArray) = BA sep := rfl
    refine Ev.step (f := fun k => (spec_l01Text.f k v.f0 v.f1 v.f2).bind fun t => if (BA acc ++ BA sep).size + t.size ≤ 9223372036854775807 then spec_l01RowText.l0 k l ((BA acc ++ BA sep) ++ t) ((i + 1 : Nat) : Int) else none) (fun k => ?_) ?_
    · simp only [spec_l01RowText.l0, hr]
      rw [if_pos (by omega), if_pos (by omega), if_pos (by rw [BA_size]; omega), if_pos (by omega), hw, hs]
    · refine Ev.bind (spec_lit v.f0 v.f1 v.f2 hgv.2.1 hgv.2.2 (good_ok hgv)) ?_
      rw [← L_self v, BA_append, BA_append]
      refine Ev.congr (fun _ => if_pos ?_) hn
      rw [BA_size, BA_size]
      simp [sep]
      omega
/-- The row's text. -/
def text (l : List S39) : ByteArray := BA ([40] ++ Lib.join (l.map L) sep ++ [41])
theorem spec_text (l : List S39) (hl : l.length ≤ 8) (hg : ∀ v ∈ l, good v) : Ev (fun k => spec_l01RowText.f k l) (text l) := by
  unfold spec_l01RowText.f text
  cases l with
  | nil =>
    refine Ev.step (f := fun _ => some (BA ([40] ++ Lib.join (List.map L []) sep ++ [41]))) (fun k => ?_) (Ev.now _)
    simp only [spec_l01RowText.l0]
    rw [if_neg (by simp), if_pos (by decide)]
    rfl
  | cons v xs =>
    have hgv : good v := hg v (by simp)
    have hL := L_len hgv
    have hr : rd_T39 (v :: xs) (0 : Int) = v := by
      have := rd27 (v :: xs) 0 (by simp)
      simpa using this
    have hw : wrap64 ((0 : Int) + 1) = ((1 : Nat) : Int) := by decide +kernel
    have hn := spec_tail (v :: xs) hl hg xs.length 1 ([40] ++ L v) (by simp; omega) (by omega) (by simp; omega)
    have e : [40] ++ L v ++ Lib.joinTail sep (((v :: xs).drop 1).map L) ++ [41] = [40] ++ Lib.join ((v :: xs).map L) sep ++ [41] := by
      rw [List.map_cons, Lib.join_cons]
      simp
    rw [← e]
    have h40 : (⟨#[40]⟩ : ByteArray) = BA [40] := rfl
    refine Ev.step (f := fun k => (spec_l01Text.f k v.f0 v.f1 v.f2).bind fun t => if (BA [40]).size + t.size ≤ 9223372036854775807 then spec_l01RowText.l0 k (v :: xs) (BA [40] ++ t) ((1 : Nat) : Int) else none) (fun k => ?_) ?_
    · simp only [spec_l01RowText.l0, hr]
      rw [if_pos (by simp), if_neg (by omega), if_pos (by omega), hw, h40]
    · refine Ev.bind (spec_lit v.f0 v.f1 v.f2 hgv.2.1 hgv.2.2 (good_ok hgv)) ?_
      rw [← L_self v, BA_append]
      refine Ev.congr (fun _ => if_pos ?_) hn
      rw [BA_size, BA_size]
      simp
      omega

theorem impl_loop (l : List S39) (hl : l.length ≤ 8) (hg : ∀ v ∈ l, good v) : ∀ (d i : Nat), i + d = l.length →
    Ev (fun k => impl_RowText.l0 k ((l.take i).map fun v => lit v.f0 v.f1 v.f2) l (l.length : Int) (i : Int)) (text l, 0) := by
  intro d
  induction d with
  | zero =>
    intro i hi
    obtain rfl : i = l.length := by omega
    have hj : strings_Join.f ((l.take l.length).map fun v => lit v.f0 v.f1 v.f2) (⟨#[44, 32]⟩ : ByteArray) = some (BA (Lib.join (l.map L) sep)) := by
      rw [List.take_of_length_le (Nat.le_refl _)]
      unfold strings_Join.f
      have em : (l.map fun v => lit v.f0 v.f1 v.f2).map (fun x => x.data.toList) = l.map L := by simp [L]
      rw [em]
      have := join_len l hg
      exact if_pos ⟨by rw [List.length_map]; omega, by show (Lib.join (l.map L) sep).length ≤ _; omega⟩
    have hz := join_len l hg
    refine Ev.step (f := fun _ => some (text l, 0)) (fun k => ?_) (Ev.now _)
    simp only [impl_RowText.l0]
    rw [if_neg (by omega), hj, Option.bind_some, if_pos (by rw [BA_size]; omega)]
    have h40 : (⟨#[40]⟩ : ByteArray) = BA [40] := rfl
    have h41 : (⟨#[41]⟩ : ByteArray) = BA [41] := rfl
    rw [h40, h41, BA_append, if_pos (by rw [BA_size]; simp; omega), BA_append]
    rfl
  | succ d ih =>
    intro i hi
    have hil : i < l.length := by omega
    obtain ⟨v, hv⟩ : ∃ v, v = l[i] := ⟨_, rfl⟩
    have hr : rd_T39 l (i : Int) = v := by rw [rd27 l i hil, hv]
    have hgv : good v := by rw [hv]; exact hg _ (List.getElem_mem _)
    have hw : wrap64 ((i : Int) + 1) = ((i + 1 : Nat) : Int) := by
      rw [wrap_id (by omega) (by omega)]
      omega
    have e : (l.take i).map (fun v => lit v.f0 v.f1 v.f2) ++ [lit v.f0 v.f1 v.f2] = (l.take (i + 1)).map (fun v => lit v.f0 v.f1 v.f2) := by
      rw [List.take_succ_eq_append_getElem hil, List.map_append, hv]
      rfl
    have hn := ih (i + 1) (by omega)
    rw [← e] at hn
    refine Ev.step (f := fun k => (impl_valueText.f k v.f0 v.f1 v.f2).bind fun t => if ((l.take i).map fun v => lit v.f0 v.f1 v.f2).length < 8796093022208 then impl_RowText.l0 k ((l.take i).map (fun v => lit v.f0 v.f1 v.f2) ++ [t]) l (l.length : Int) ((i + 1 : Nat) : Int) else none) (fun k => ?_) ?_
    · simp only [impl_RowText.l0, hr]
      rw [if_pos (by omega), if_pos (by omega), if_pos (by omega), hw]
    · refine Ev.bind (impl_lit v.f0 v.f1 v.f2 hgv.2.1 hgv.2.2 (good_ok hgv)) (Ev.congr (fun _ => if_pos ?_) hn)
      rw [List.length_map, List.length_take]
      omega

theorem okRow_iff (l : List S39) (h : okRow l = true) : l.length ≤ 8 ∧ ∀ v ∈ l, okV v = true := by
  unfold okRow at h
  simpa using h
def ans (l : List S39) : ByteArray × Int := if (l.length : Int) > 4096 then ((⟨#[]⟩ : ByteArray), 2) else if okRow l = true then (text l, 0) else ((⟨#[]⟩ : ByteArray), 1)
theorem ans_spec (l : List S39) (hw : ∀ v ∈ l, -9223372036854775808 ≤ v.f1 ∧ v.f1 ≤ 9223372036854775807) : Ev (fun k => spec_RowText.f k l) (ans l) := by
  unfold spec_RowText.f ans
  by_cases h0 : (l.length : Int) > 4096
  · rw [if_pos h0]
    exact Ev.congr (fun k => if_pos h0) (Ev.now _)
  rw [if_neg h0]
  refine Ev.congr (fun k => if_neg h0) (Ev.bind (row_spec l) ?_)
  cases hk : okRow l with
  | false => exact Ev.congr (fun k => if_neg (by simp)) (Ev.now _)
  | true =>
    obtain ⟨hl, ho⟩ := okRow_iff l hk
    refine Ev.congr (fun k => if_pos rfl) ?_
    exact Ev.bind (spec_text l hl (fun v hv => ⟨ho v hv, hw v hv⟩)) (Ev.now _)
theorem ans_impl (l : List S39) (hw : ∀ v ∈ l, -9223372036854775808 ≤ v.f1 ∧ v.f1 ≤ 9223372036854775807) : Ev (fun k => impl_RowText.f k l) (ans l) := by
  unfold impl_RowText.f ans
  by_cases h0 : (l.length : Int) > 4096
  · rw [if_pos h0]
    exact Ev.congr (fun k => if_pos h0) (Ev.now _)
  rw [if_neg h0]
  refine Ev.congr (fun k => if_neg h0) (Ev.bind (Ev.congr (fun _ => row_impl l) (Ev.now _)) ?_)
  cases hk : okRow l with
  | false => exact Ev.congr (fun k => if_neg (by simp)) (Ev.now _)
  | true =>
    obtain ⟨hl, ho⟩ := okRow_iff l hk
    refine Ev.congr (fun k => if_pos rfl) ?_
    exact impl_loop l hl (fun v hv => ⟨ho v hv, hw v hv⟩) l.length 0 (by omega)

theorem FnExactRowText : Pure := by
  intro l hl
  have wl : ∀ x ∈ l, x.f2.size ≤ 9223372036854775807 := fun x hx => by
    have := (hl.2 x hx).2.2
    simpa [Wfstr, maxLen] using this
  have ll : l.length ≤ 9223372036854775807 := by simpa [maxLen] using hl.1
  have hw : ∀ v ∈ l.map conv, -9223372036854775808 ≤ v.f1 ∧ v.f1 ≤ 9223372036854775807 := fun v hv => by
    obtain ⟨x, hx, rfl⟩ := List.mem_map.1 hv
    exact wf64 (hl.2 x hx).2.1
  refine Ev.rounds ?_
  unfold laws_FnExactRowText.f
  obtain ⟨r, h1, h2, h3⟩ := sizes l ll wl 1048576 (by omega) (by omega)
  refine Ev.bind h1 ?_
  by_cases hr : r < 0
  · exact Ev.congr (fun k => if_pos hr) (Ev.now _)
  refine Ev.congr (fun k => if_neg hr) ?_
  have hlen : l.length ≤ 1048576 := h3 (by omega)
  have c1 := copies l (by omega)
  have e1 := eq_same (l.map conv) (by rw [List.length_map]; omega)
  refine Ev.bind c1 (Ev.bind (ans_spec _ hw) (Ev.bind c1 (Ev.bind (ans_impl _ hw) (Ev.congr (fun _ => if_pos rfl) ?_))))
  refine Ev.step (fun k => by simp only [laws_FnExactRowText.j0, bne_self_eq_false, Bool.false_eq_true, if_false]; rfl) ?_
  exact Ev.bind c1 (Ev.bind e1 (Ev.congr (fun k => if_pos rfl) (Ev.now _)))

end Go.Proofs.YtnhfhafbdbmkpaaDoor.fnExactRowText.Pure
