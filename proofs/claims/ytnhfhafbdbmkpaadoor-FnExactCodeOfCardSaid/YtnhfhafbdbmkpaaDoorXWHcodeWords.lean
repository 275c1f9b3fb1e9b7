-- Written for this claim: a contract of one function, proved by hand; the places of its template filled by a program.
import Derived.Test.YtnhfhafbdbmkpaaDoorXW0
import Derived.Test.YtnhfhafbdbmkpaaDoorShelf
import Derived.Test.YtnhfhafbdbmkpaaDoorGlob
namespace Go.Proofs.YtnhfhafbdbmkpaaDoor.XW
open Go Go.RowKit Go.Proofs.YtnhfhafbdbmkpaaDoorW.PrintWords Go.Proofs.YtnhfhafbdbmkpaaDoorW.PrintLast Go.Proofs.YtnhfhafbdbmkpaaDoorW.PrintMore
set_option linter.unusedVariables false
set_option linter.unusedSimpArgs false
def impl_codeWords.text : ByteArray := ⟨#[111, 107, 32, 98, 97, 100, 32, 108, 111, 110, 103, 32, 102, 111, 114, 109, 32, 114, 97, 110, 103, 101, 32, 110, 111, 110, 101, 32, 109, 97, 110, 121, 32, 102, 117, 108, 108, 32, 115, 117, 109, 32, 116, 119, 105, 99, 101, 32, 116, 121, 112, 101, 32, 110, 97, 109, 101, 32, 99, 111, 117, 110, 116, 32, 122, 101, 114, 111, 32, 110, 117, 108, 108, 32, 99, 111, 110, 102, 108, 105, 99, 116, 32, 99, 108, 111, 115, 101, 100, 32, 102, 117, 101, 108, 32, 103, 117, 97, 114, 100, 32, 115, 121, 110, 116, 97, 120]⟩
/-- The words. -/
def impl_codeWords.words : List ByteArray := [⟨#[111, 107]⟩, ⟨#[98, 97, 100]⟩, ⟨#[108, 111, 110, 103]⟩, ⟨#[102, 111, 114, 109]⟩, ⟨#[114, 97, 110, 103, 101]⟩, ⟨#[110, 111, 110, 101]⟩, ⟨#[109, 97, 110, 121]⟩, ⟨#[102, 117, 108, 108]⟩, ⟨#[115, 117, 109]⟩, ⟨#[116, 119, 105, 99, 101]⟩, ⟨#[116, 121, 112, 101]⟩, ⟨#[110, 97, 109, 101]⟩, ⟨#[99, 111, 117, 110, 116]⟩, ⟨#[122, 101, 114, 111]⟩, ⟨#[110, 117, 108, 108]⟩, ⟨#[99, 111, 110, 102, 108, 105, 99, 116]⟩, ⟨#[99, 108, 111, 115, 101, 100]⟩, ⟨#[102, 117, 101, 108]⟩, ⟨#[103, 117, 97, 114, 100]⟩, ⟨#[115, 121, 110, 116, 97, 120]⟩]
def impl_codeWords.f : Option (List ByteArray) := some impl_codeWords.words
theorem impl_codeWords.count : Lib.countB impl_codeWords.text ⟨#[32]⟩ = 19 := by decide +kernel
theorem impl_codeWords.split : Lib.splitB ⟨#[32]⟩ 0 19 impl_codeWords.text = impl_codeWords.words := by decide +kernel
theorem impl_codeWords.reps (w : World) (base : Nat) (ok : Nat → Prop) : ∀ xs : List ByteArray, Reps (Kd.string.M w base ok) 1 xs (xs.map Value.string)
  | [] => Reps.none _ _
  | x :: xs => Reps.one (show Kd.M Kd.string _ _ _ x [.string x] from rfl) (impl_codeWords.reps w base ok xs)
set_option maxHeartbeats 2000000 in
set_option maxRecDepth 100000 in
theorem impl_codeWords.calls (r : List ByteArray) (w : World) (hG : Go.Proofs.YtnhfhafbdbmkpaaDoor.Glob.GM w) (h : impl_codeWords.f = some r) :
    Calls Tryd.prog 45 #[] w fun e w' => ∃ v0_ : Value, e = .returned (v0_) ∧ Kd.R Kd.string 9 w' w.heap.size (fun _ => True) v0_ r ∧ Below w.heap.size w w' := by
  obtain rfl := Option.some.inj h
  obtain ⟨m, hm⟩ := hG.m
  have hc := Tryd.strings_Split impl_codeWords.text ⟨#[32]⟩ m w (by decide +kernel) hm (by decide +kernel)
  rw [impl_codeWords.count, impl_codeWords.split] at hc
  have HC := Aside0.mk hc
  clear hc hm hG h
  go_enter Tryd.func45, Tryd.ntmps45
  go_wp2_with (go_at_call 69; refine HC.out.mono ?_; rintro e w' ⟨rfl, rfl⟩)
  go_ret
  refine ⟨_, rfl, ⟨fun _ _ => trivial, _, ⟨?_, .inr ⟨w.heap.size, 20, _, rfl, Nat.le_refl _, blk_new w _, Nat.le_refl _, by unfold maxLen; decide, ?_, ?_⟩⟩, impl_codeWords.reps _ _ _ impl_codeWords.words⟩, below_alloc (Below.refl _ _) _⟩
  · rfl
  · rfl
  · rfl

end Go.Proofs.YtnhfhafbdbmkpaaDoor.XW
