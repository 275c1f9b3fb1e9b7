-- Written for this claim: a contract of one function, proved by hand; the places of its template filled by a program.
import Derived.Test.YtmjbacnioncicaaXF0
import Derived.Test.YtmjbacnioncicaaShelf
namespace Go.Proofs.Ytmjbacnioncicaa.XF
open Go Go.RowKit Go.Proofs.YtmjbacnioncicaaW.PrintWords Go.Proofs.YtmjbacnioncicaaW.PrintLast Go.Proofs.YtmjbacnioncicaaW.PrintMore
set_option linter.unusedVariables false
set_option linter.unusedSimpArgs false
def noughts (m : Nat) : ByteArray := ⟨(List.replicate m 0).toArray⟩
theorem repeat_noughts : ∀ m : Nat, Lib.repeatL [0] m = List.replicate m (0 : UInt8)
  | 0 => by simp [Lib.repeatL]
  | m + 1 => by simp [Lib.repeatL, List.replicate_succ, repeat_noughts m]
def impl_padded.f (a0 : ByteArray) (a1 : Int) : Option ByteArray := if a1 - (a0.size : Int) < 0 then none else if 1000 < a1 then none else some (a0 ++ noughts (a1 - (a0.size : Int)).toNat)
set_option maxHeartbeats 2000000 in
theorem impl_padded.calls (a0 : ByteArray) (a1 : Int) (r : ByteArray) (w : World) (h : impl_padded.f a0 a1 = some r) :
    Calls Try.prog 32 #[.string a0, .int .i64 a1] w fun e w' => e = .returned (.string r) ∧ Below w.heap.size w w' := by
  unfold impl_padded.f at h
  by_cases h1 : a1 - (a0.size : Int) < 0
  · rw [if_pos h1] at h
    exact absurd h (by simp)
  rw [if_neg h1] at h
  by_cases h2 : 1000 < a1
  · rw [if_pos h2] at h
    exact absurd h (by simp)
  rw [if_neg h2] at h
  obtain ⟨c, hc⟩ : ∃ c : Nat, (c : Int) = a1 - (a0.size : Int) := ⟨(a1 - (a0.size : Int)).toNat, by omega⟩
  rw [← hc, Int.toNat_natCast] at h
  have hn : c ≤ 1000 := by omega
  obtain ⟨R, hR⟩ : ∃ R, R = noughts c := ⟨_, rfl⟩
  have hrep : ∀ W, Calls Try.prog 38 #[.string ⟨#[0]⟩, .int .i64 c] W fun e w' => e = .returned (.string R) ∧ Below W.heap.size W w' := fun W => by
    have := Try.strings_Repeat ⟨#[0]⟩ c W (by omega) (by show 1 * c ≤ _; omega)
    rw [show (Lib.repeatL (⟨#[0]⟩ : ByteArray).data.toList c) = List.replicate c (0 : UInt8) from repeat_noughts c] at this
    rw [hR]
    exact this
  have hsz : R.size = c := by
    rw [hR]
    simp [noughts, ByteArray.size]
  have hcat : a0.size + R.size ≤ 9223372036854775807 := by omega
  obtain rfl := Option.some.inj h
  rw [← hR]
  have HR := Aside0.mk hrep
  have hd : a1 - (a0.size : Int) = (c : Int) := hc.symm
  have hcat2 : (9223372036854775807 < a0.size + R.size) = False := eq_false (Nat.not_lt.2 hcat)
  clear hrep h hc hR hsz
  go_enter Try.func32, Try.ntmps32
  go_wp2_with (go_at_call 38; refine (HR.out _).mono ?_; rintro e w' ⟨rfl, hb⟩)
  go_ret
  exact ⟨rfl, hb⟩

end Go.Proofs.Ytmjbacnioncicaa.XF
