import Derived.Test.YtcefdpjlpjgaiaaXK0
import Derived.Test.YtcefdpjlpjgaiaaWApart
/-! A struct whose inner rows lie apart: the kind of a node that is marked. Plain law of the words alone. -/
namespace Go.Proofs.Ytcefdpjlpjgaiaa.XK
open Go Go.RowKit Go.Proofs.YtcefdpjlpjgaiaaW.PrintWords
set_option linter.unusedVariables false
set_option linter.unusedSimpArgs false
/-- Two in line that lead to no block both. -/
def pairX {α β : Type} (a : Kd α) (b : Kd β) : Kd (α × β) where
  sz := a.sz + b.sz
  E := a.E ++ b.E
  K := fun w x cs => ∃ c0 c1, cs = c0 ++ c1 ∧ a.K w x.1 c0 ∧ b.K w x.2 c1
  M := fun w base ok x cs => ∃ (c0 c1 : List Value) (p : Nat → Prop), cs = c0 ++ c1 ∧ a.M w base (fun k => ok k ∧ p k) x.1 c0 ∧ b.M w base (fun k => ok k ∧ ¬ p k) x.2 c1
  K_len := by
    rintro w x cs ⟨c0, c1, rfl, h0, h1⟩
    rw [List.length_append, a.K_len h0, b.K_len h1]
  K_one := by
    rintro w x cs ⟨c0, c1, rfl, h0, h1⟩ u hu
    rcases List.mem_append.1 hu with hu | hu
    · exact a.K_one h0 u hu
    · exact b.K_one h1 u hu
  K_below := by
    rintro w w1 x cs hb ⟨c0, c1, rfl, h0, h1⟩
    exact ⟨c0, c1, rfl, a.K_below hb h0, b.K_below hb h1⟩
  K_of_M := by
    rintro w base ok x cs ⟨c0, c1, p, rfl, h0, h1⟩
    exact ⟨c0, c1, rfl, a.K_of_M h0, b.K_of_M h1⟩
  M_mono := by
    rintro w base ok ok' x cs hok ⟨c0, c1, p, rfl, h0, h1⟩
    exact ⟨c0, c1, p, rfl, a.M_mono (fun k hk => ⟨hok k hk.1, hk.2⟩) h0, b.M_mono (fun k hk => ⟨hok k hk.1, hk.2⟩) h1⟩
  M_bound := by
    rintro w base ok x cs ⟨c0, c1, p, rfl, h0, h1⟩
    refine ⟨c0, c1, p, rfl, a.M_mono ?_ (a.M_bound h0), b.M_mono ?_ (b.M_bound h1)⟩
    · rintro k ⟨⟨h2, h5⟩, h3, h4, q, hq, hc⟩
      exact ⟨⟨h2, h3, h4, q, List.mem_append_left _ hq, hc⟩, h5⟩
    · rintro k ⟨⟨h2, h5⟩, h3, h4, q, hq, hc⟩
      exact ⟨⟨h2, h3, h4, q, List.mem_append_right _ hq, hc⟩, h5⟩
  M_move := by
    rintro w w1 base ok x cs hm ⟨c0, c1, p, rfl, h0, h1⟩
    exact ⟨c0, c1, p, rfl, a.M_move (fun k hk => hm k hk.1) h0, b.M_move (fun k hk => hm k hk.1) h1⟩
  M_lower := by
    rintro w base base' ok x cs hb ⟨c0, c1, p, rfl, h0, h1⟩
    exact ⟨c0, c1, p, rfl, a.M_lower hb h0, b.M_lower hb h1⟩
def kx : Kd S58 := Kd.iso (Kd.pair Kd.bool (pairX (Kd.slice 9 Kd.string) (pairX (Kd.slice 9 Kd.string) (Kd.slice 3 (Kd.int .i64))))) (fun x : S58 => (x.f0, x.f1, x.f2, x.f3))
theorem kx_sz : kx.sz = 4 := rfl
/-- Of its rows: they lie apart, each within ok. -/
theorem kx_mk (w : World) (base : Nat) (ok o1 o2 o3 : Nat → Prop) (x : S58) {v1 v2 v3 : Value} (h1 : ∀ k, o1 k → ok k) (h2 : ∀ k, o2 k → ok k ∧ ¬ o1 k) (h3 : ∀ k, o3 k → (ok k ∧ ¬ o1 k) ∧ ¬ o2 k)
    (g1 : Kd.string.R 9 w base o1 v1 x.f1) (g2 : Kd.string.R 9 w base o2 v2 x.f2) (g3 : (Kd.int .i64).R 3 w base o3 v3 x.f3) : kx.M w base ok x [.bool x.f0, v1, v2, v3] :=
  ⟨[.bool x.f0], [v1, v2, v3], rfl, rfl, [v1], [v2, v3], o1, rfl, ⟨v1, rfl, Kd.R_mono g1 (fun k hk => ⟨h1 k hk, hk⟩)⟩,
    [v2], [v3], o2, rfl, ⟨v2, rfl, Kd.R_mono g2 (fun k hk => ⟨h2 k hk, hk⟩)⟩, ⟨v3, rfl, Kd.R_mono g3 (fun k hk => h3 k hk)⟩⟩
theorem kx_open {w : World} {base : Nat} {ok : Nat → Prop} {x : S58} {cs : List Value} (h : kx.M w base ok x cs) :
    ∃ (v1 v2 v3 : Value) (o1 o2 o3 : Nat → Prop), cs = [.bool x.f0, v1, v2, v3] ∧ (∀ k, o1 k → ok k) ∧ (∀ k, o2 k → ok k ∧ ¬ o1 k) ∧ (∀ k, o3 k → (ok k ∧ ¬ o1 k) ∧ ¬ o2 k) ∧
      Kd.string.R 9 w base o1 v1 x.f1 ∧ Kd.string.R 9 w base o2 v2 x.f2 ∧ (Kd.int .i64).R 3 w base o3 v3 x.f3 := by
  obtain ⟨c0, c1, rfl, h0, c2, c3, p, rfl, ⟨v1, rfl, g1⟩, c4, c5, q, rfl, ⟨v2, rfl, g2⟩, ⟨v3, rfl, g3⟩⟩ := h
  have h0' : c0 = [.bool x.f0] := h0
  subst h0'
  exact ⟨v1, v2, v3, fun k => ok k ∧ p k, fun k => (ok k ∧ ¬ p k) ∧ q k, fun k => (ok k ∧ ¬ p k) ∧ ¬ q k, rfl, fun k hk => hk.1, fun k hk => ⟨hk.1.1, fun h => hk.1.2 h.2⟩, fun k hk => ⟨⟨hk.1.1, fun h => hk.1.2 h.2⟩, fun h => hk.2 h.2⟩, g1, g2, g3⟩
theorem kx_M {w : World} {base : Nat} {ok : Nat → Prop} {x : S58} {cs : List Value} (h : kx.M w base ok x cs) : k58.M w base ok x cs := by
  obtain ⟨v1, v2, v3, o1, o2, o3, rfl, h1, h2, h3, g1, g2, g3⟩ := kx_open h
  exact k58_mkM w base ok x (Kd.R_mono g1 h1) (Kd.R_mono g2 (fun k hk => (h2 k hk).1)) (Kd.R_mono g3 (fun k hk => (h3 k hk).1.1))
theorem kx_S {w : World} {base e : Nat} {ok : Nat → Prop} {v : Value} {xs : List S58} (h : Kd.S kx e w base ok v xs) : Kd.S k58 e w base ok v xs := by
  obtain ⟨f, h0, inner, ho, hr⟩ := h
  exact ⟨f, h0, inner, ho, hr.imp_ (fun p c hp => kx_M hp)⟩
end Go.Proofs.Ytcefdpjlpjgaiaa.XK
