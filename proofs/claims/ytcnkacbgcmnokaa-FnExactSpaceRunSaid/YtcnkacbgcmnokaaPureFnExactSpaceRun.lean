import Derived.Test.YtcnkacbgcmnokaaXOpenFnExactSpaceRun
import Derived.Test.YtcnkacbgcmnokaaRunpR
namespace Go.Proofs.Ytcnkacbgcmnokaa.fnExactSpaceRun.Pure
set_option maxRecDepth 100000
open Go Go.RowKit Go.Proofs.Ytcnkacbgcmnokaa.XR Go.Proofs.YtcnkacbgcmnokaaW.PrintWords Go.Proofs.YtcnkacbgcmnokaaW.PrintLast Go.Proofs.YtcnkacbgcmnokaaW.PrintMore Go.Proofs.Ytcnkacbgcmnokaa.Opn
set_option linter.unusedVariables false
/-- The law of a run. -/
theorem FnExactSpaceRun : Pure := by
  rintro a0 l1 _ ⟨ml, _⟩
  unfold maxLen at ml
  obtain ⟨t, ht, hl⟩ := RunpR.acts_size l1 (by omega)
  by_cases hn : t < 0
  · exact ⟨0, if_pos ⟨t, ht, .inl hn⟩⟩
  have h1 := hl (by omega)
  have h1' : (l1.map RunpR.conv).length ≤ 1048576 := by rw [List.length_map]; exact h1
  obtain ⟨r, ⟨k1, e1⟩, ⟨k2, e2⟩, ⟨b2, b3, b4⟩, b5, b6⟩ := RunpR.runs a0 (l1.map RunpR.conv)
  obtain ⟨k3, e3⟩ := RunpR.acts_copy l1 h1
  obtain ⟨k4, e4⟩ := SpaR.space_same r.T r.o.E r.o.now r.o.held r.o.pins (by omega) (by omega) (by omega)
  obtain ⟨k5, e5⟩ := RunpR.replies_same r.rs (by omega) b6
  obtain ⟨k6, e6⟩ := RunpR.acts_same (l1.map RunpR.conv) h1'
  obtain ⟨k7, e7⟩ := RunpR.acts_mark (l1.map RunpR.conv) 1 (by omega) (by omega)
  obtain ⟨k8, e8⟩ := MarkSfR.space_mark r.T r.o.E r.o.now r.o.held r.o.pins 1 (by omega) (by omega) (by omega) (by omega) (by omega)
  obtain ⟨k9, e9⟩ := MarkSrR.space_held r.T r.o.E r.o.now.length r.o.held.length r.o.pins.length 1 (by omega) (by omega) (by omega) (by omega) (by omega)
  obtain ⟨k10, e10⟩ := RunpR.replies_held r.rs (1 + (r.o.now.length : Int) + 2 * (r.o.held.length : Int) + (r.o.pins.length : Int)) (by omega) (by omega) (by omega) b6
  have ht2 := RunpR.tot_le r.rs b6 r.rs.length
  have hb : MX.at_ (1 + (r.o.now.length : Int) + 2 * (r.o.held.length : Int) + (r.o.pins.length : Int)) r.rs r.rs.length ≤ 4611686018427387904 := by unfold MX.at_; omega
  have hb0 : 0 ≤ MX.at_ (1 + (r.o.now.length : Int) + 2 * (r.o.held.length : Int) + (r.o.pins.length : Int)) r.rs r.rs.length := by unfold MX.at_; omega
  obtain ⟨k, hk⟩ : ∃ k, k = k1 + k2 + k3 + k4 + k5 + k6 + k7 + k8 + k9 + k10 := ⟨_, rfl⟩
  exact ⟨k, if_pos ⟨t, ht, .inr ⟨by omega, _, r, _, _, _, _, _, _, _, ⟨e3 k (by omega), e2 k (by omega), e1 k (by omega), ⟨by omega, by omega, by omega⟩, e4 k (by omega), e5 k (by omega), e6 k (by omega), e7 k (by omega), by omega, e8 k (by omega), by omega, rfl, hb, by omega, e9 k (by omega), e10 k (by omega), hb0⟩⟩⟩⟩
end Go.Proofs.Ytcnkacbgcmnokaa.fnExactSpaceRun.Pure
