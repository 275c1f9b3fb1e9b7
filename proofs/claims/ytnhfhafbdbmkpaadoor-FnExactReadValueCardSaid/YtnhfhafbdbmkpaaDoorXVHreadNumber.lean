-- Written for this claim: a contract of one function, proved by hand; the places of its template filled by a program.
import Derived.Test.YtnhfhafbdbmkpaaDoorXV0
import Derived.Test.YtnhfhafbdbmkpaaDoorXV4
import Derived.Test.YtnhfhafbdbmkpaaDoorShelf
import Derived.Test.YtnhfhafbdbmkpaaDoorGlob
namespace Go.Proofs.YtnhfhafbdbmkpaaDoor.XV
open Go Go.RowKit Go.Proofs.YtnhfhafbdbmkpaaDoorW.PrintWords Go.Proofs.YtnhfhafbdbmkpaaDoorW.PrintLast Go.Proofs.YtnhfhafbdbmkpaaDoorW.PrintMore
set_option linter.unusedVariables false
set_option linter.unusedSimpArgs false
/-- How many bytes stand behind the sign, at most eighteen. -/
def impl_readNumber.few (t : ByteArray) : Bool := decide (((⟨(Lib.trimPrefix t.data.toList [45]).toArray⟩ : ByteArray).size : Int) ≤ 18)
def impl_readNumber.f (a0 : ByteArray) : Option (Int × Bool) := if a0.size ≤ 281474976710656 then (match Lib.atoiAll a0.data.toList with
  | .ok v => (impl_formatInt.f v).bind fun s => some (v, if s.toList = a0.toList then impl_readNumber.few a0 else false)
  | .range => some (Lib.atoiSat a0.data.toList, false)
  | _ => some (0, false)) else none
set_option maxHeartbeats 4000000 in
theorem impl_readNumber.calls (a0 : ByteArray) (r1 : Int) (r2 : Bool) (w : World) (hG : Go.Proofs.YtnhfhafbdbmkpaaDoor.Glob.GE w) (h : impl_readNumber.f a0 = some (r1, r2)) :
    Calls Tryd.prog 68 #[.string a0] w fun e w' => e = .returned (.tuple #[.int .i64 r1, .bool r2]) ∧ Below w.heap.size w w' := by
  unfold impl_readNumber.f at h
  obtain ⟨hz, h⟩ := Option.ite_none_right_eq_some.1 h
  have HG := Aside0.mk hG
  clear hG
  cases hA : Lib.atoiAll a0.data.toList with
  | ok v =>
    rw [hA] at h
    simp only [Option.bind_eq_some_iff] at h
    obtain ⟨s, hs, h⟩ := h
    obtain ⟨rfl, rfl⟩ := Prod.mk.inj (Option.some.inj h)
    have hc : ∀ W, Calls Tryd.prog 79 #[.string a0] W fun e w' => e = .returned (.tuple #[.int .i64 v, .nilIface]) ∧ Below W.heap.size W w' := fun W =>
      (Tryd.strconv_Atoi_ok a0 (by omega) v hA W).mono fun e w' ⟨he, hw⟩ => ⟨he, by
        rcases hw with rfl | ⟨t, rfl⟩
        · exact Below.refl _ _
        · exact bytes_below (Below.refl _ _) (Nat.le_refl _) 5 t⟩
    have HC := Aside0.mk hc
    have HS := Aside0.mk hs
    clear hc hs h hA
    by_cases hq : s.toList = a0.toList
    · have q1 : (s.toList == a0.toList) = true := beq_iff_eq.2 hq
      rw [if_pos hq]
      unfold impl_readNumber.few
      clear hq
      go_enter Tryd.func68, Tryd.ntmps68
      go_wp2_with (first | (go_at_call 79; refine (HC.out _).mono ?_; rintro e w1 ⟨rfl, hb1⟩; have B1 := Aside0.mk hb1; clear hb1) | (go_at_call 57; (with_reducible refine (impl_formatInt.calls (hG := ?hG) v s _ HS.out).mono ?_); (case hG => exact HG.out.below B1.out); rintro e w2 ⟨rfl, hb2⟩; have B2 := Aside0.mk (below_then B1.out B1.out.size hb2); clear hb2) | (go_at_call 80; refine (Tryd.strings_TrimPrefix _ _ _).mono ?_; rintro e w3 ⟨rfl, rfl⟩))
      go_ret2
      exact ⟨rfl, B2.out⟩
    · have q1 : (s.toList == a0.toList) = false := beq_eq_false_iff_ne.2 hq
      rw [if_neg hq]
      clear hq
      go_enter Tryd.func68, Tryd.ntmps68
      go_wp2_with (first | (go_at_call 79; refine (HC.out _).mono ?_; rintro e w1 ⟨rfl, hb1⟩; have B1 := Aside0.mk hb1; clear hb1) | (go_at_call 57; (with_reducible refine (impl_formatInt.calls (hG := ?hG) v s _ HS.out).mono ?_); (case hG => exact HG.out.below B1.out); rintro e w2 ⟨rfl, hb2⟩; have B2 := Aside0.mk (below_then B1.out B1.out.size hb2); clear hb2))
      go_ret2
      exact ⟨rfl, B2.out⟩
  | range =>
    rw [hA] at h
    obtain ⟨rfl, rfl⟩ := Prod.mk.inj (Option.some.inj h)
    obtain ⟨_, _, t, p, hv⟩ := HG.out
    have hc := Any.strconv_Atoi_range Tryd.laysC172 a0 hz hA _ w hv (.inr ⟨t, p, rfl⟩)
    have HC := Aside0.mk hc
    clear hc hA h hv
    go_enter Tryd.func68, Tryd.ntmps68
    go_wp2_with (go_at_call 79; refine HC.out.mono ?_; rintro e w1 ⟨N, rfl, hN, hcell, hb1⟩; have B1 := Aside0.mk hb1; clear hb1 hN hcell)
    go_ret2
    exact ⟨rfl, B1.out⟩
  | _ =>
    rw [hA] at h
    obtain ⟨rfl, rfl⟩ := Prod.mk.inj (Option.some.inj h)
    obtain ⟨_, ⟨t, p, hv⟩, _⟩ := HG.out
    have hc := Any.strconv_Atoi_syntax Tryd.laysC172 a0 hz hA _ w hv (.inr ⟨t, p, rfl⟩)
    have HC := Aside0.mk hc
    clear hc hA h hv
    go_enter Tryd.func68, Tryd.ntmps68
    go_wp2_with (go_at_call 79; refine HC.out.mono ?_; rintro e w1 ⟨N, rfl, hN, hcell, hb1⟩; have B1 := Aside0.mk hb1; clear hb1 hN hcell)
    go_ret2
    exact ⟨rfl, B1.out⟩

end Go.Proofs.YtnhfhafbdbmkpaaDoor.XV
