/- Numbers marked and read back; plain lemmas. -/
import Derived.Test.YtcefdpjlpjgaiaaXR11
import Derived.Test.YtcefdpjlpjgaiaaXR8
import Derived.Test.YtcefdpjlpjgaiaaMarkE
namespace Go.Proofs.Ytcefdpjlpjgaiaa.MarkIR
open Go Go.RowKit Go.Proofs.Ytcefdpjlpjgaiaa.XR Go.Proofs.YtcefdpjlpjgaiaaW.PrintWords Go.Proofs.YtcefdpjlpjgaiaaW.PrintLast Go.Proofs.YtcefdpjlpjgaiaaW.PrintMore Go.Proofs.Ytcefdpjlpjgaiaa.Aid Go.Proofs.Ytcefdpjlpjgaiaa.Loops Go.Proofs.Ytcefdpjlpjgaiaa.MarkE
set_option linter.unusedVariables false

theorem ints_mark (xs : List Int) (s : Int) (h0 : 0 ≤ s) (hc : s + 1 * xs.length ≤ 536870912) : Ev (fun k => laws_markIntS.f k xs s) (s + 1 * xs.length, stone (fun a => a) s 1 xs.length) := by
  unfold laws_markIntS.f
  refine markE (fun k xs a i => laws_markIntS.l0 k xs a i) xs.length s 1 (fun a => a) h0 (by omega) hc (fun i ys a r hy hi ha hb hr => ?_) (fun ys a hy => ?_) xs rfl
  · refine Ev.step (fun k => ?_) hr
    simp only [laws_markIntS.l0]
    rw [if_pos (by omega), if_pos (by omega), Int.toNat_natCast, wrap_id (x := a + 1) (by omega) (by omega), next_ (n := xs.length) hi (by omega)]
  · exact Ev.step (f := fun _ => some (a, ys)) (fun k => by simp only [laws_markIntS.l0]; rw [if_neg (by omega)]) (Ev.now _)
theorem ints_same (xs : List Int) (hl : xs.length ≤ 1048576) : Ev (fun k => laws_eqIntS.f k xs xs) true := by
  unfold laws_eqIntS.f
  refine Ev.congr (fun k => if_pos rfl) ?_
  exact eqP (fun k i => laws_eqIntS.l0 k xs xs i) xs.length (xs.length : Int) (fun i => rd xs i = rd xs i) (by omega) rfl (fun _ => rfl) (fun _ _ => rfl)
theorem ints_held (n : Nat) (s : Int) (h0 : 0 ≤ s) (hc : s + 1 * n ≤ 536870912) : Ev (fun k => laws_heldIntS.f k (stone (fun a => a) s 1 n) s) (s + 1 * n) := by
  have hl : (stone (fun a : Int => a) s 1 n).length = n := by simp [stone]
  unfold laws_heldIntS.f
  refine heldE (fun k a i => laws_heldIntS.l0 k (stone (fun a => a) s 1 n) a i) n s 1 h0 (by omega) hc (fun i r hi hb ha hr => ?_) (fun a => ?_)
  · have g : rd (stone (fun a : Int => a) s 1 n) (i : Int) = s + 1 * i := by
      show (stone (fun a : Int => a) s 1 n).getD (i : Int).toNat 0 = _
      rw [Int.toNat_natCast]
      exact stone_get (fun a : Int => a) s 1 n 0 i hi
    refine Ev.step (fun k => ?_) hr
    simp only [laws_heldIntS.l0]
    rw [hl, if_pos (by omega), if_pos (by omega), if_pos g, wrap_id (x := s + 1 * (i : Int) + 1) (by omega) (by omega), next_ (n := n) hi (by omega)]
  · exact Ev.step (f := fun _ => some a) (fun k => by simp only [laws_heldIntS.l0]; rw [hl, if_neg (by omega)]) (Ev.now _)
end Go.Proofs.Ytcefdpjlpjgaiaa.MarkIR
