/- For all numbers the program's NewDisk answers what the reference's answers, in memory of its own; no condition. -/
import Derived.Test.YtnbhpoajbplfkaaXW4
import Derived.Test.YtnbhpoajbplfkaaMarkTW
namespace Go.Proofs.Ytnbhpoajbplfkaa.Pure
open Go Go.RowKit Go.Proofs.Ytnbhpoajbplfkaa.XW Go.Proofs.YtnbhpoajbplfkaaW.PrintWords Go.Proofs.YtnbhpoajbplfkaaW.PrintLast Go.Proofs.YtnbhpoajbplfkaaW.PrintMore Go.Proofs.Ytnbhpoajbplfkaa.Aid Go.Proofs.Ytnbhpoajbplfkaa.Loops Go.Proofs.Ytnbhpoajbplfkaa.MarkE Go.Proofs.Ytnbhpoajbplfkaa.MarkTW
set_option linter.unusedVariables false
set_option linter.unusedSimpArgs false
set_option maxRecDepth 100000

def blank : ByteArray := strOfNums (List.replicate 32 0)
theorem blank_repeat : strings_Repeat.f (⟨#[0]⟩ : ByteArray) 32 = some blank := by
  rw [strings_Repeat.f, if_neg (by omega), if_neg (by omega), if_neg (by decide)]
  rfl
theorem spec_loop (n : Nat) (hn : n ≤ 256) : ∀ (d i : Nat), i + d = n → Ev (fun k => spec_NewDisk.l0 k (n : Int) (i : Int) (List.replicate i blank)) (List.replicate n blank, ([] : List S80), (0 : Int)) := by
  intro d
  induction d with
  | zero =>
    intro i hi
    obtain rfl : i = n := by omega
    exact Ev.step (f := fun _ => some _) (fun k => by rw [spec_NewDisk.l0, if_neg (by omega)]) (Ev.now _)
  | succ d ih =>
    intro i hi
    refine Ev.step (fun k => ?_) (ih (i + 1) (by omega))
    rw [spec_NewDisk.l0, if_pos (by omega), spec_l02Blank.f, if_pos (by omega), Option.bind_some, if_pos (by rw [List.length_replicate]; omega), next_ (n := n) (by omega) (by omega), show List.replicate (i + 1) blank = List.replicate i blank ++ [blank] from List.replicate_succ']
    rfl
theorem both (a : Int) : ∃ (X : List ByteArray) (c : Int), X.length ≤ 256 ∧ Ev (fun k => spec_NewDisk.f k a) (X, ([] : List S80), c) ∧ impl_NewDisk.f a = some (X, ([] : List S80), c) := by
  by_cases h : 1 ≤ a ∧ a ≤ 256
  · obtain ⟨n, rfl⟩ : ∃ n : Nat, a = (n : Int) := ⟨a.toNat, by omega⟩
    refine ⟨List.replicate n blank, 0, by rw [List.length_replicate]; omega, ?_, ?_⟩
    · unfold spec_NewDisk.f spec_l01In.f
      rw [if_pos (by omega)]
      simp only [Option.bind_some]
      rw [decide_eq_true (by omega : (n : Int) ≤ 256)]
      simp only [if_true]
      exact spec_loop n (by omega) n 0 (by omega)
    · unfold impl_NewDisk.f impl_within.f
      rw [if_pos (by omega), Option.bind_some, decide_eq_true (by omega : (n : Int) ≤ 256), if_pos rfl, blank_repeat, Option.bind_some, slices_Repeat_string_string.f, if_pos ⟨rfl, by omega, by omega⟩, Option.bind_some, Int.toNat_natCast]
      rfl
  · refine ⟨[], 4, by simp, ?_, ?_⟩
    · unfold spec_NewDisk.f spec_l01In.f
      by_cases h1 : a ≥ 1
      · rw [if_pos h1]
        simp only [Option.bind_some]
        rw [decide_eq_false (by omega : ¬ a ≤ 256)]
        exact Ev.now _
      · rw [if_neg h1]
        exact Ev.now _
    · unfold impl_NewDisk.f impl_within.f
      by_cases h1 : a ≥ 1
      · rw [if_pos h1, Option.bind_some, decide_eq_false (by omega : ¬ a ≤ 256)]
        rfl
      · rw [if_neg h1]
        rfl
theorem like (X : List ByteArray) (h : X.length ≤ 256) : Ev (fun k => laws_eqDisk.f k X ([] : List S80) X ([] : List S80)) true := by
  unfold laws_eqDisk.f laws_eqStringS.f laws_eqPendingS.f
  refine Ev.bind (a := true) (Ev.congr (fun k => if_pos rfl) (eqP (fun k i => laws_eqStringS.l0 k X X i) X.length (X.length : Int) (fun i => (rdOf ByteArray.empty X i).toList = (rdOf ByteArray.empty X i).toList) (by omega) rfl (fun i => rfl) (fun k i => rfl))) ?_
  refine Ev.congr (fun k => if_pos rfl) (Ev.bind (a := true) (Ev.congr (fun k => if_pos rfl) ?_) (Ev.now _))
  exact Ev.step (f := fun _ => some true) (fun k => by rw [laws_eqPendingS.l0, if_neg (by simp)]) (Ev.now _)
theorem mark (X : List ByteArray) (h : X.length ≤ 256) : Ev (fun k => laws_markDisk.f k X ([] : List S80) 1) ((1 + 1 * (X.length : Int)), stone mt 1 1 X.length, ([] : List S80)) := by
  unfold laws_markDisk.f laws_markStringS.f laws_markPendingS.f
  refine Ev.bind (a := (1 + 1 * (X.length : Int), stone mt 1 1 X.length)) (markE (fun k ys a i => laws_markStringS.l0 k ys a i) X.length 1 1 mt (by omega) (by omega) (by omega) ?_ ?_ X rfl) ?_
  · intro i xs a r hx hi h0 h1 hr
    refine Ev.step (f := fun k => (laws_markText.f k a).bind fun t => laws_markStringS.l0 k (xs.set i t) (a + 1) ((i + 1 : Nat) : Int)) (fun k => ?_) (Ev.bind (mt_ev a (by omega)) hr)
    simp only [laws_markStringS.l0]
    rw [if_pos (by omega)]
    refine congrArg _ (funext fun t => ?_)
    rw [if_pos (by omega), Int.toNat_natCast, next_ (n := X.length) (by omega) (by omega), wrap_id (by omega) (by omega)]
  · intro xs a hx
    exact Ev.step (f := fun _ => some _) (fun k => by simp only [laws_markStringS.l0]; rw [if_neg (by omega)]) (Ev.now _)
  · refine Ev.bind (a := (1 + 1 * (X.length : Int), ([] : List S80))) ?_ (Ev.now _)
    exact Ev.step (f := fun _ => some _) (fun k => by simp only [laws_markPendingS.l0]; rw [if_neg (by simp)]) (Ev.now _)
theorem held (n : Nat) (h : n ≤ 256) : Ev (fun k => laws_heldDisk.f k (stone mt 1 1 n) ([] : List S80) 1) (1 + 1 * (n : Int)) := by
  have hl : (stone mt 1 1 n).length = n := by simp [stone]
  unfold laws_heldDisk.f laws_heldStringS.f laws_heldPendingS.f
  refine Ev.bind (a := 1 + 1 * (n : Int)) (heldE (fun k a i => laws_heldStringS.l0 k (stone mt 1 1 n) a i) n 1 1 (by omega) (by omega) (by omega) ?_ ?_) ?_
  · intro i r hi h0 h1 hr
    refine Ev.step (f := fun k => (laws_markText.f k (1 + 1 * (i : Int))).bind fun t => if (rdOf ByteArray.empty (stone mt 1 1 n) (i : Int)).toList = t.toList then laws_heldStringS.l0 k (stone mt 1 1 n) (1 + 1 * (i : Int) + 1) ((i + 1 : Nat) : Int) else some (-1)) (fun k => ?_) (Ev.bind (mt_ev _ (by omega)) (Ev.congr (fun k => if_pos ?_) hr))
    · simp only [laws_heldStringS.l0]
      rw [if_pos (by omega), if_pos (by omega)]
      refine congrArg _ (funext fun t => ?_)
      rw [next_ (n := n) (by omega) (by omega), wrap_id (x := 1 + 1 * (i : Int) + 1) (by omega) (by omega)]
    · unfold rdOf
      rw [Int.toNat_natCast, stone_get mt 1 1 n _ i hi]
  · intro a
    exact Ev.step (f := fun _ => some _) (fun k => by simp only [laws_heldStringS.l0]; rw [if_neg (by omega)]) (Ev.now _)
  · refine Ev.congr (fun k => if_neg (by omega)) (Ev.bind (a := 1 + 1 * (n : Int)) ?_ (Ev.congr (fun k => if_neg (by omega)) (Ev.now _)))
    exact Ev.step (f := fun _ => some _) (fun k => by simp only [laws_heldPendingS.l0]; rw [if_neg (by simp)]) (Ev.now _)

theorem FnExactNewDisk : laws_FnExactNewDisk.Pure := by
  intro a _
  refine Ev.rounds ?_
  obtain ⟨X, c, hX, h1, h2⟩ := both a
  unfold laws_FnExactNewDisk.f
  refine Ev.bind h1 (Ev.congr (fun k => by rw [h2, Option.bind_some]) (Ev.bind (like X hX) (Ev.congr (fun k => if_pos rfl) ?_)))
  refine Ev.step (fun k => laws_FnExactNewDisk.j0.eq_2 ..) (Ev.congr (fun _ => if_neg (by simp)) ?_)
  refine Ev.bind (mark X hX) (Ev.bind (held X.length hX) (Ev.congr (fun k => if_neg (by omega)) (Ev.congr (fun k => if_pos rfl) (Ev.congr (fun k => by rw [h2, Option.bind_some]) (Ev.bind (like X hX) (Ev.congr (fun k => if_pos rfl) ?_))))))
  refine Ev.step (fun k => laws_FnExactNewDisk.j1.eq_2 ..) (Ev.congr (fun _ => if_neg (by simp)) ?_)
  exact Ev.bind (held X.length hX) (Ev.congr (fun k => if_neg (by omega)) (Ev.congr (fun k => if_pos rfl) (Ev.now _)))

end Go.Proofs.Ytnbhpoajbplfkaa.Pure
