import Derived.Test.YtcnkacbgcmnokaaXOpenFnExactSpaceStep
import Derived.Test.YtcnkacbgcmnokaaPlainy
namespace Go.Proofs.Ytcnkacbgcmnokaa.fnExactSpaceStep.Pure
set_option maxRecDepth 100000
open Go Go.RowKit Go.Proofs.Ytcnkacbgcmnokaa.XA Go.Proofs.YtcnkacbgcmnokaaW.PrintWords Go.Proofs.YtcnkacbgcmnokaaW.PrintLast Go.Proofs.YtcnkacbgcmnokaaW.PrintMore Go.Proofs.Ytcnkacbgcmnokaa.Opn
set_option linter.unusedVariables false
/-- The law of one step. -/
theorem FnExactSpaceStep : Pure := by
  rintro ⟨a, b, l2, l3, l4⟩ ⟨kind, n⟩ ⟨_, _, ⟨m2, _⟩, ⟨m3, _⟩, ⟨m4, _⟩⟩ _
  unfold maxLen at m2 m3 m4
  obtain ⟨t, ht, hl⟩ := SpaA.space_size a b l2 l3 l4 (by omega) (by omega) (by omega)
  by_cases hn : t < 0
  · exact ⟨0, if_pos ⟨t, ht, .inl hn⟩⟩
  obtain ⟨h2, h3, h4⟩ := hl (by omega)
  have h3' : (l3.map SpaA.conv).length ≤ 1048576 := by rw [List.length_map]; exact h3
  obtain ⟨r, ⟨k1, e1⟩, ⟨k2, e2⟩, b2, b3, b4, b5⟩ := FitsA.both a b l2 (l3.map SpaA.conv) l4 kind n h2 h3' h4
  obtain ⟨k3, e3⟩ := SpaA.space_copy a b l2 l3 l4 h2 h3 h4
  obtain ⟨k4, e4⟩ := SpaA.space_same r.T r.o.E r.o.now r.o.held r.o.pins b2 b3 b4
  obtain ⟨k5, e5⟩ := MarkShA.reply_same r.o.code r.o.pages b5
  obtain ⟨k6, e6⟩ := SpaA.space_same a b l2 (l3.map SpaA.conv) l4 h2 h3' h4
  obtain ⟨k7, e7⟩ := MarkSfA.space_mark a b l2 (l3.map SpaA.conv) l4 1 (by omega) (by omega) h2 h3' h4
  obtain ⟨k8, e8⟩ := MarkSfA.space_mark r.T r.o.E r.o.now r.o.held r.o.pins 1 (by omega) (by omega) b2 b3 b4
  obtain ⟨k9, e9⟩ := MarkShA.reply_mark r.o.code r.o.pages (1 + (r.o.now.length : Int) + 2 * (r.o.held.length : Int) + (r.o.pins.length : Int)) (by omega) (by omega)
  obtain ⟨k10, e10⟩ := MarkShA.space_held r.T r.o.E r.o.now.length r.o.held.length r.o.pins.length 1 (by omega) (by omega) b2 b3 b4
  obtain ⟨k11, e11⟩ := MarkShA.reply_held r.o.code r.o.pages.length (1 + (r.o.now.length : Int) + 2 * (r.o.held.length : Int) + (r.o.pins.length : Int)) (by omega) (by omega)
  obtain ⟨k, hk⟩ : ∃ k, k = k1 + k2 + k3 + k4 + k5 + k6 + k7 + k8 + k9 + k10 + k11 := ⟨_, rfl⟩
  exact ⟨k, if_pos ⟨t, ht, .inr ⟨by omega, _, r, _, _, _, _, _, _, _, _, _, _, ⟨e3 k (by omega), e2 k (by omega), e1 k (by omega), e4 k (by omega), e5 k (by omega), e6 k (by omega), e7 k (by omega), by omega, e8 k (by omega), e9 k (by omega), e10 k (by omega), e11 k (by omega), by omega, by omega⟩⟩⟩⟩
end Go.Proofs.Ytcnkacbgcmnokaa.fnExactSpaceStep.Pure
