/- For every list of bytes of at most 2^20 bytes the program's sum is the reference's (0 for more than 65536 bytes), and the list that was handed in is unchanged; no condition. -/
import Derived.Test.YtagdjkdnblpghaaXS1
import Derived.Test.YtagdjkdnblpghaaCrc
namespace Go.Proofs.Ytagdjkdnblpghaa.Pure
open Go Go.RowKit Go.Proofs.Ytagdjkdnblpghaa.XS Go.Proofs.YtagdjkdnblpghaaW.PrintWords Go.Proofs.YtagdjkdnblpghaaW.PrintLast Go.Proofs.Ytagdjkdnblpghaa.Aid Go.Proofs.Ytagdjkdnblpghaa.Crc

theorem copy_set (xs : List Int) (i d : Nat) (h : i + (d + 1) = xs.length) :
    (xs.take i ++ List.replicate (d + 1) 0).set i (rd xs (i : Int)) = xs.take (i + 1) ++ List.replicate d 0 := by
  have hl : (xs.take i).length = i := by simp; omega
  rw [List.set_append_right _ _ (by omega), hl, Nat.sub_self, List.replicate_succ, List.set_cons_zero, List.take_succ_eq_append_getElem (by omega), List.append_assoc]
  congr 1
  simp [rd, List.getD_eq_getElem?_getD, List.getElem?_eq_getElem (show i < xs.length by omega)]

theorem copy_loop (xs : List Int) (hn : xs.length ≤ 140737488351232) : ∀ (d i : Nat), i + d = xs.length →
    Ev (fun k => laws_toByteS.l0 k xs (xs.take i ++ List.replicate d 0) (i : Int)) xs := by
  intro d
  induction d with
  | zero =>
    intro i hi
    refine Ev.step (f := fun _ => some xs) (fun k => ?_) (Ev.now _)
    simp only [laws_toByteS.l0]
    rw [if_neg (by omega), List.take_of_length_le (by omega)]
    simp
  | succ d ih =>
    intro i hi
    have hl : (xs.take i ++ List.replicate (d + 1) (0 : Int)).length = xs.length := by simp; omega
    refine Ev.step (fun k => ?_) (ih (i + 1) (by omega))
    simp only [laws_toByteS.l0]
    rw [if_pos (by omega), if_pos (by omega), if_pos (by omega), wrap_id (by omega) (by omega), Int.toNat_natCast, copy_set xs i d hi]
    rfl
theorem copies (xs : List Int) (hn : xs.length ≤ 140737488351232) : Ev (fun k => laws_toByteS.f k xs) xs := by
  refine Ev.congr (fun k => ?_) (copy_loop xs hn xs.length 0 (by omega))
  unfold laws_toByteS.f
  rw [if_pos (by omega), if_pos (by omega)]
  simp

theorem eq_loop (xs : List Int) (hn : xs.length ≤ 140737488351232) : ∀ (d i : Nat), i + d = xs.length →
    Ev (fun k => laws_eqByteS.l0 k xs xs (i : Int)) true := by
  intro d
  induction d with
  | zero =>
    intro i hi
    refine Ev.step (f := fun _ => some true) (fun k => ?_) (Ev.now _)
    simp only [laws_eqByteS.l0]
    rw [if_neg (by omega)]
  | succ d ih =>
    intro i hi
    refine Ev.step (fun k => ?_) (ih (i + 1) (by omega))
    simp only [laws_eqByteS.l0]
    rw [if_pos (by omega), if_pos (by omega), if_pos (by omega), if_pos trivial, wrap_id (by omega) (by omega)]
    rfl
theorem eq_same (xs : List Int) (hn : xs.length ≤ 140737488351232) : Ev (fun k => laws_eqByteS.f k xs xs) true := by
  refine Ev.congr (fun k => ?_) (eq_loop xs hn xs.length 0 (by omega))
  unfold laws_eqByteS.f
  rw [if_pos rfl]
  rfl

theorem wf8 {x : Int} (h : (Lit.int .u8 x).wf = true) : 0 ≤ x ∧ x < 256 := by
  simp [Lit.wf, IntKind.min, IntKind.max, IntKind.signed, IntKind.bits] at h
  omega

theorem FnExactPageSum : laws_FnExactPageSum.Pure := by
  intro xs _ hn0 hwf
  have hn : xs.length ≤ 140737488351232 := by omega
  have hx : ∀ x ∈ xs, 0 ≤ x ∧ x < 256 := fun x hm => wf8 (hwf x hm)
  refine Ev.rounds ?_
  unfold laws_FnExactPageSum.f
  by_cases hb : (xs.length : Int) > 1048576
  · refine Ev.congr (fun k => ?_) (Ev.now true)
    rw [if_pos hb]
  refine Ev.congr (fun k => if_neg hb) ?_
  have hpair : ∃ r, Ev (fun k => spec_PageSum.f k xs) r ∧ Ev (fun k => impl_PageSum.f k xs) r := by
    unfold spec_PageSum.f impl_PageSum.f
    by_cases hl : (xs.length : Int) > 65536
    · exact ⟨0, Ev.congr (fun k => if_pos hl) (Ev.now _), Ev.congr (fun k => if_pos hl) (Ev.now _)⟩
    · refine ⟨sum xs, Ev.congr (fun k => if_neg hl) ?_, Ev.congr (fun k => if_neg hl) ?_⟩
      · exact Ev.bind (spec_sum xs hx (by omega)) (Ev.now _)
      · have h := impl_sum (strOfNums xs) (by rw [strOfNums_size]; omega)
        rw [bytesOf_strOfNums xs hx] at h
        exact Ev.bind h (Ev.now _)
  obtain ⟨r, hs, hi⟩ := hpair
  refine Ev.bind (copies xs hn) (Ev.bind hs (Ev.bind (copies xs hn) (Ev.bind hi ?_)))
  refine Ev.congr (fun k => if_pos rfl) ?_
  refine Ev.bind (copies xs hn) (Ev.bind (eq_same xs hn) ?_)
  exact Ev.congr (fun k => if_pos rfl) (Ev.now _)

end Go.Proofs.Ytagdjkdnblpghaa.Pure
