-- Written for this claim: a contract of one function, proved by hand; the places of its template filled by a program.
import Derived.Test.YtcefdpjlpjgaiaaXK0
import Derived.Test.YtcefdpjlpjgaiaaXK3
import Derived.Lib.SlBy
namespace Go.Proofs.Ytcefdpjlpjgaiaa.XK
open Go Go.RowKit Go.Proofs.YtcefdpjlpjgaiaaW.PrintWords Go.Proofs.YtcefdpjlpjgaiaaW.PrintLast Go.Proofs.YtcefdpjlpjgaiaaW.PrintMore
set_option linter.unusedVariables false
set_option linter.unusedSimpArgs false
/-! What a law writes into a forest that it looks at no more: blocks of a range alone, cell for cell of the same kind. -/
def laws_markForest.Like (u u' : Value) : Prop := u = u' ∨ (∃ s s', u = .string s ∧ u' = .string s') ∨ (∃ x x', u = .int .i64 x ∧ u' = .int .i64 x') ∨ (∃ b b', u = .bool b ∧ u' = .bool b')
theorem laws_markForest.Like.trans {a b c : Value} (h : laws_markForest.Like a b) (k : laws_markForest.Like b c) : laws_markForest.Like a c := by
  rcases h with rfl | ⟨s, s', rfl, rfl⟩ | ⟨s, s', rfl, rfl⟩ | ⟨s, s', rfl, rfl⟩
  · exact k
  · rcases k with rfl | ⟨t, t', e, rfl⟩ | ⟨t, t', e, rfl⟩ | ⟨t, t', e, rfl⟩
    · exact .inr (.inl ⟨s, s', rfl, rfl⟩)
    · exact .inr (.inl ⟨s, t', rfl, rfl⟩)
    · cases e
    · cases e
  · rcases k with rfl | ⟨t, t', e, rfl⟩ | ⟨t, t', e, rfl⟩ | ⟨t, t', e, rfl⟩
    · exact .inr (.inr (.inl ⟨s, s', rfl, rfl⟩))
    · cases e
    · exact .inr (.inr (.inl ⟨s, t', rfl, rfl⟩))
    · cases e
  · rcases k with rfl | ⟨t, t', e, rfl⟩ | ⟨t, t', e, rfl⟩ | ⟨t, t', e, rfl⟩
    · exact .inr (.inr (.inr ⟨s, s', rfl, rfl⟩))
    · cases e
    · cases e
    · exact .inr (.inr (.inr ⟨s, t', rfl, rfl⟩))
structure laws_markForest.Alike (lo : Nat) (S : Nat → Prop) (w w' : World) : Prop where
  below : Below lo w w'
  kept : ∀ k, ¬ S k → k < w.heap.size → w'.heap[k]? = w.heap[k]?
  like : ∀ k, lo ≤ k → S k → ∀ (cur : Array Value) (e : TypeId), w.heap[k]? = some (.cells cur e (0, 0)) → ∃ cur' : Array Value, w'.heap[k]? = some (.cells cur' e (0, 0)) ∧ cur'.size = cur.size ∧ ∀ (j : Nat) (u : Value), cur[j]? = some u → ∃ u' : Value, cur'[j]? = some u' ∧ laws_markForest.Like u u'
theorem laws_markForest.Alike.refl (lo : Nat) (S : Nat → Prop) (w : World) : laws_markForest.Alike lo S w w := ⟨Below.refl _ _, fun _ _ _ => rfl, fun k _ _ cur e h => ⟨cur, h, rfl, fun j u hu => ⟨u, hu, .inl rfl⟩⟩⟩
theorem laws_markForest.Alike.trans {lo : Nat} {S : Nat → Prop} {a b c : World} (h : laws_markForest.Alike lo S a b) (k : laws_markForest.Alike lo S b c) : laws_markForest.Alike lo S a c := by
  refine ⟨h.below.trans k.below, fun i h1 h2 => (k.kept i h1 (Nat.lt_of_lt_of_le h2 h.below.size)).trans (h.kept i h1 h2), fun i h1 h2 cur e hc => ?_⟩
  obtain ⟨c1, e1, s1, l1⟩ := h.like i h1 h2 cur e hc
  obtain ⟨c2, e2, s2, l2⟩ := k.like i h1 h2 c1 e e1
  refine ⟨c2, e2, s2.trans s1, fun j u hu => ?_⟩
  obtain ⟨u1, hu1, g1⟩ := l1 j u hu
  obtain ⟨u2, hu2, g2⟩ := l2 j u1 hu1
  exact ⟨u2, hu2, g1.trans g2⟩
theorem laws_markForest.Alike.of_below {lo : Nat} {S : Nat → Prop} {w w' : World} (h : Below w.heap.size w w') (hl : lo ≤ w.heap.size) : laws_markForest.Alike lo S w w' :=
  ⟨h.mono hl, fun k _ hk => h.block k hk, fun k _ _ cur e hc => ⟨cur, (h.block k (blk_lt hc)).trans hc, rfl, fun j u hu => ⟨u, hu, .inl rfl⟩⟩⟩
theorem laws_markForest.Alike.set {lo g j e : Nat} {S : Nat → Prop} {w : World} {cur : Array Value} {u0 u : Value} (hb : w.heap[g]? = some (.cells cur e (0, 0))) (h1 : lo ≤ g) (h2 : S g) (h0 : cur[j]? = some u0) (hu : laws_markForest.Like u0 u) : laws_markForest.Alike lo S w (w.setCell ⟨g, j, none⟩ u) := by
  have hj : j < cur.size := (Array.getElem?_eq_some_iff.1 h0).1
  refine ⟨(Below.refl lo w).setCell (p := ⟨g, j, none⟩) h1 u, fun k hk _ => Below.heap_setCell w ⟨g, j, none⟩ u k (fun e => hk (by rw [e]; exact h2)), fun k _ _ cur' e' hc => ?_⟩
  by_cases hg : k = g
  · subst hg
    rw [hb] at hc
    cases hc
    refine ⟨cur.setIfInBounds j u, blk_put hb j u rfl, by simp, fun i v hv => ?_⟩
    by_cases hij : j = i
    · subst hij
      rw [h0] at hv
      cases hv
      exact ⟨u, by simp [hj], hu⟩
    · exact ⟨v, by rw [Array.getElem?_setIfInBounds_ne hij]; exact hv, .inl rfl⟩
  · exact ⟨cur', (Below.heap_setCell w ⟨g, j, none⟩ u k hg).trans hc, rfl, fun i v hv => ⟨v, hv, .inl rfl⟩⟩
/-- A slice of cells of one kind in the range. -/
def laws_markForest.Row (lo : Nat) (S : Nat → Prop) (e : Nat) (K : Value → Prop) (w : World) (v : Value) (n : Nat) : Prop :=
  (n = 0 ∧ ∃ A c, v = .slice A 0 c) ∨ ∃ (g cap : Nat) (cur : Array Value), v = .slice (some ⟨g, 0, none⟩) n cap ∧ lo ≤ g ∧ S g ∧ w.heap[g]? = some (.cells cur e (0, 0)) ∧ ∀ j : Nat, j < n → ∃ u : Value, cur[j]? = some u ∧ K u
def laws_markForest.IsS (u : Value) : Prop := ∃ s, u = .string s
def laws_markForest.IsI (u : Value) : Prop := ∃ x, u = .int .i64 x
theorem laws_markForest.IsS.like {u u' : Value} (h : laws_markForest.IsS u) (k : laws_markForest.Like u u') : laws_markForest.IsS u' := by
  obtain ⟨s, rfl⟩ := h
  rcases k with rfl | ⟨t, t', e, rfl⟩ | ⟨t, t', e, rfl⟩ | ⟨t, t', e, rfl⟩
  · exact ⟨s, rfl⟩
  · exact ⟨t', rfl⟩
  · cases e
  · cases e
theorem laws_markForest.IsI.like {u u' : Value} (h : laws_markForest.IsI u) (k : laws_markForest.Like u u') : laws_markForest.IsI u' := by
  obtain ⟨s, rfl⟩ := h
  rcases k with rfl | ⟨t, t', e, rfl⟩ | ⟨t, t', e, rfl⟩ | ⟨t, t', e, rfl⟩
  · exact ⟨s, rfl⟩
  · cases e
  · exact ⟨t', rfl⟩
  · cases e
theorem laws_markForest.Row.move {lo e : Nat} {S : Nat → Prop} {K : Value → Prop} (hK : ∀ u u', K u → laws_markForest.Like u u' → K u') {w w' : World} {v : Value} {n : Nat} (h : laws_markForest.Row lo S e K w v n) (a : laws_markForest.Alike lo S w w') : laws_markForest.Row lo S e K w' v n := by
  rcases h with h | ⟨g, cap, cur, e1, h1, h2, h3, h4⟩
  · exact .inl h
  · obtain ⟨cur', c1, _, c3⟩ := a.like g h1 h2 cur e h3
    refine .inr ⟨g, cap, cur', e1, h1, h2, c1, fun j hj => ?_⟩
    obtain ⟨u, hu, ku⟩ := h4 j hj
    obtain ⟨u', hu', l⟩ := c3 j u hu
    exact ⟨u', hu', hK u u' ku l⟩
/-- A mark's text stands. -/
theorem laws_markForest.one_size (n : Int) : (strOfNums [n]).size = 1 := rfl
theorem laws_markForest.text_from (d : Nat) : ∀ (a : Int) (t : ByteArray), 0 ≤ a → a ≤ (d : Int) → (t.size : Int) + a ≤ 4611686018427387904 → ∃ k r, laws_markText.l0 k a t = some r := by
  induction d with
  | zero =>
    intro a t h0 h1 h2
    exact ⟨1, _, by simp only [laws_markText.l0]; rw [if_neg (by omega), if_pos (by omega)]⟩
  | succ d ih =>
    intro a t h0 h1 h2
    by_cases hp : a > 0
    · have hw : wrap64 (Int.tdiv a 10) = a / 10 := by
        rw [Int.tdiv_eq_ediv_of_nonneg h0]
        unfold wrap64
        omega
      have hs : ((strOfNums [wrap64 (48 + Int.tmod a 10) % 256] ++ t).size : Int) = 1 + t.size := by
        rw [ByteArray.size_append, laws_markForest.one_size]
        omega
      obtain ⟨k, r, hr⟩ := ih (a / 10) (strOfNums [wrap64 (48 + Int.tmod a 10) % 256] ++ t) (by omega) (by omega) (by rw [hs]; omega)
      refine ⟨k + 1, r, ?_⟩
      simp only [laws_markText.l0, Option.bind_some]
      rw [if_pos hp, if_pos (by rw [laws_markForest.one_size]; omega), hw]
      exact hr
    · exact ⟨1, _, by simp only [laws_markText.l0]; rw [if_neg hp, if_pos (by omega)]⟩
theorem laws_markForest.text (a : Int) (h : a ≤ 4611686018427387904) : ∃ k r, laws_markText.f k a = some r := by
  unfold laws_markText.f
  by_cases h0 : a ≤ 0
  · exact ⟨0, _, if_pos h0⟩
  · obtain ⟨k, r, hr⟩ := laws_markForest.text_from a.toNat a ⟨#[]⟩ (by omega) (by omega) (by show ((0 : Nat) : Int) + a ≤ _; omega)
    exact ⟨k, r, (if_neg h0).trans hr⟩
set_option maxHeartbeats 2000000 in
theorem laws_markForest.markS (lo : Nat) (S : Nat → Prop) (n : Nat) (v : Value) (a : Int) (w : World) (hr : laws_markForest.Row lo S 9 laws_markForest.IsS w v n) (h0 : 0 ≤ a) (h1 : a + (n : Int) ≤ 4611686018427387904) (hlo : lo ≤ w.heap.size) :
    Calls Try.prog 40 #[v, .int .i64 a] w fun e w' => e = .returned (.int .i64 (a + (n : Int))) ∧ laws_markForest.Alike lo S w w' := by
  obtain ⟨A, c, rfl⟩ : ∃ A c, v = .slice A n c := by
    rcases hr with ⟨rfl, A, c, rfl⟩ | ⟨g, cap, cur, rfl, _⟩
    · exact ⟨A, c, rfl⟩
    · exact ⟨_, _, rfl⟩
  have HR := Aside0.mk hr
  clear hr
  go_enter Try.func40, Try.ntmps40
  go_wp2
  go_loopg [1, 5] n (fun gg s1 s5 wr => ∃ i : Nat, s1 = .int .i64 (a + (i : Int)) ∧ s5 = .int .i64 (i : Int) ∧ Aside0 (i ≤ n ∧ n ≤ i + gg) ∧ Aside0 (laws_markForest.Alike lo S w wr))
  case atStart => exact ⟨0, by simp, rfl, ⟨by omega⟩, ⟨laws_markForest.Alike.refl _ _ _⟩⟩
  case round =>
    obtain ⟨i, rfl, rfl, HI, HA⟩ := hrel
    by_cases hin : i < n
    · have c1 : decide ((i : Int) < (n : Int)) = true := decide_eq_true (by omega)
      have hlo2 : lo ≤ wr.heap.size := Nat.le_trans hlo HA.out.below.size
      rcases laws_markForest.Row.move (fun u u' h k => laws_markForest.IsS.like h k) HR.out HA.out with ⟨hz, _⟩ | ⟨g, cap, cur, e1, g1, g2, hb, hk⟩
      · omega
      cases e1
      obtain ⟨u, hu, s, rfl⟩ := hk i hin
      obtain ⟨kk, t, ht⟩ := laws_markForest.text (a + (i : Int)) (by omega)
      have HT := Aside0.mk ht
      have HBk := Aside0.mk hb
      have HU := Aside0.mk hu
      have p1 : (0 : Int) ≤ (i : Int) := by omega
      have p2 : (i : Int) < (n : Int) := by omega
      have hw1 : wrap64 (a + (i : Int) + 1) = a + ((i + 1 : Nat) : Int) := by unfold wrap64; omega
      have hw2 : wrap64 ((i : Int) + 1) = ((i + 1 : Nat) : Int) := by unfold wrap64; omega
      clear ht hb hu hk
      go_wp2_with (go_at_call 53; (with_reducible refine (laws_markText.calls kk (a + (i : Int)) t _ HT.out).mono ?_); rintro e w2 ⟨rfl, hd⟩; have D := Aside0.mk hd; have B2 := Aside0.mk (blk_below HBk.out hd); clear hd; have hz0 : w2.cell? ⟨g, i, none⟩ = some (.string s) := (blk_cell B2.out i).trans HU.out; have hf0 := blk_frozen B2.out i)
      go_roundg (gk - 1)
      case measure => have := HI.out; omega
      case rel => exact ⟨i + 1, by first | rfl | (rw [hw1]; done) | (congr 1; push_cast; omega), by first | rfl | (rw [hw2]; done) | (congr 1; omega), ⟨by have := HI.out; omega⟩, ⟨(HA.out.trans (laws_markForest.Alike.of_below D.out hlo2)).trans (laws_markForest.Alike.set B2.out g1 g2 HU.out (.inr (.inl ⟨s, t, rfl, rfl⟩)))⟩⟩
    · have c1 : decide ((i : Int) < (n : Int)) = false := decide_eq_false (by omega)
      have hni : i = n := by have := HI.out; omega
      subst hni
      go_wp2
      go_ret
      exact ⟨rfl, HA.out⟩
set_option maxHeartbeats 2000000 in
theorem laws_markForest.markI (lo : Nat) (S : Nat → Prop) (n : Nat) (v : Value) (a : Int) (w : World) (hr : laws_markForest.Row lo S 3 laws_markForest.IsI w v n) (h0 : 0 ≤ a) (h1 : a + (n : Int) ≤ 4611686018427387904) (hlo : lo ≤ w.heap.size) :
    Calls Try.prog 13 #[v, .int .i64 a] w fun e w' => e = .returned (.int .i64 (a + (n : Int))) ∧ laws_markForest.Alike lo S w w' := by
  obtain ⟨A, c, rfl⟩ : ∃ A c, v = .slice A n c := by
    rcases hr with ⟨rfl, A, c, rfl⟩ | ⟨g, cap, cur, rfl, _⟩
    · exact ⟨A, c, rfl⟩
    · exact ⟨_, _, rfl⟩
  have HR := Aside0.mk hr
  clear hr
  go_enter Try.func13, Try.ntmps13
  go_wp2
  go_loopg [1, 5] n (fun gg s1 s5 wr => ∃ i : Nat, s1 = .int .i64 (a + (i : Int)) ∧ s5 = .int .i64 (i : Int) ∧ Aside0 (i ≤ n ∧ n ≤ i + gg) ∧ Aside0 (laws_markForest.Alike lo S w wr))
  case atStart => exact ⟨0, by simp, rfl, ⟨by omega⟩, ⟨laws_markForest.Alike.refl _ _ _⟩⟩
  case round =>
    obtain ⟨i, rfl, rfl, HI, HA⟩ := hrel
    by_cases hin : i < n
    · have c1 : decide ((i : Int) < (n : Int)) = true := decide_eq_true (by omega)
      rcases laws_markForest.Row.move (fun u u' h k => laws_markForest.IsI.like h k) HR.out HA.out with ⟨hz, _⟩ | ⟨g, cap, cur, e1, g1, g2, hb, hk⟩
      · omega
      cases e1
      obtain ⟨u, hu, s, rfl⟩ := hk i hin
      have HBk := Aside0.mk hb
      have HU := Aside0.mk hu
      have p1 : (0 : Int) ≤ (i : Int) := by omega
      have p2 : (i : Int) < (n : Int) := by omega
      have hw1 : wrap64 (a + (i : Int) + 1) = a + ((i + 1 : Nat) : Int) := by unfold wrap64; omega
      have hw2 : wrap64 ((i : Int) + 1) = ((i + 1 : Nat) : Int) := by unfold wrap64; omega
      have hz0 : wr.cell? ⟨g, i, none⟩ = some (.int .i64 s) := (blk_cell HBk.out i).trans HU.out
      have hf0 := blk_frozen HBk.out i
      clear hb hu hk
      go_wp2
      go_roundg (gk - 1)
      case measure => have := HI.out; omega
      case rel => exact ⟨i + 1, by first | rfl | (rw [hw1]; done) | (congr 1; push_cast; omega), by first | rfl | (rw [hw2]; done) | (congr 1; omega), ⟨by have := HI.out; omega⟩, ⟨HA.out.trans (laws_markForest.Alike.set HBk.out g1 g2 HU.out (.inr (.inr (.inl ⟨s, _, rfl, rfl⟩))))⟩⟩
    · have c1 : decide ((i : Int) < (n : Int)) = false := decide_eq_false (by omega)
      have hni : i = n := by have := HI.out; omega
      subst hni
      go_wp2
      go_ret
      exact ⟨rfl, HA.out⟩
theorem laws_markForest.Like.slice {A : Option Addr} {n c : Nat} {u : Value} (h : laws_markForest.Like (.slice A n c) u) : u = .slice A n c := by
  rcases h with rfl | ⟨t, t', e, rfl⟩ | ⟨t, t', e, rfl⟩ | ⟨t, t', e, rfl⟩
  · rfl
  · cases e
  · cases e
  · cases e
theorem laws_markForest.Like.bool {b : Bool} {u : Value} (h : laws_markForest.Like (.bool b) u) : ∃ b', u = .bool b' := by
  rcases h with rfl | ⟨t, t', e, rfl⟩ | ⟨t, t', e, rfl⟩ | ⟨t, t', e, rfl⟩
  · exact ⟨b, rfl⟩
  · cases e
  · cases e
  · exact ⟨t', rfl⟩
theorem laws_markForest.Row.slice {lo e : Nat} {S : Nat → Prop} {K : Value → Prop} {w : World} {v : Value} {n : Nat} (h : laws_markForest.Row lo S e K w v n) : ∃ A c, v = .slice A n c := by
  rcases h with ⟨rfl, A, c, rfl⟩ | ⟨g, cap, cur, rfl, _⟩
  · exact ⟨A, c, rfl⟩
  · exact ⟨_, _, rfl⟩
/-- Nodes' cells in the range. -/
def laws_markForest.Nodes (lo : Nat) (S : Nat → Prop) (w : World) (v : Value) (n : Nat) (nK nV nD : Nat → Nat) : Prop :=
  (n = 0 ∧ ∃ A c, v = .slice A 0 c) ∨ ∃ (g cap : Nat) (cur : Array Value), v = .slice (some ⟨g, 0, none⟩) n cap ∧ lo ≤ g ∧ S g ∧ w.heap[g]? = some (.cells cur 58 (0, 0)) ∧
    ∀ i : Nat, i < n → ∃ (b : Bool) (vK vV vD : Value), cur[i * 4]? = some (.bool b) ∧ cur[i * 4 + 1]? = some vK ∧ cur[i * 4 + 2]? = some vV ∧ cur[i * 4 + 3]? = some vD ∧ laws_markForest.Row lo S 9 laws_markForest.IsS w vK (nK i) ∧ laws_markForest.Row lo S 9 laws_markForest.IsS w vV (nV i) ∧ laws_markForest.Row lo S 3 laws_markForest.IsI w vD (nD i)
theorem laws_markForest.Nodes.move {lo : Nat} {S : Nat → Prop} {w w' : World} {v : Value} {n : Nat} {nK nV nD : Nat → Nat} (h : laws_markForest.Nodes lo S w v n nK nV nD) (a : laws_markForest.Alike lo S w w') : laws_markForest.Nodes lo S w' v n nK nV nD := by
  rcases h with h | ⟨g, cap, cur, e1, h1, h2, h3, h4⟩
  · exact .inl h
  · obtain ⟨cur', c1, _, c3⟩ := a.like g h1 h2 cur _ h3
    refine .inr ⟨g, cap, cur', e1, h1, h2, c1, fun i hi => ?_⟩
    obtain ⟨b, vK, vV, vD, k0, k1, k2, k3, r1, r2, r3⟩ := h4 i hi
    obtain ⟨u0, m0, l0⟩ := c3 _ _ k0
    obtain ⟨u1, m1, l1⟩ := c3 _ _ k1
    obtain ⟨u2, m2, l2⟩ := c3 _ _ k2
    obtain ⟨u3, m3, l3⟩ := c3 _ _ k3
    obtain ⟨b', rfl⟩ := l0.bool
    obtain ⟨A1, x1, rfl⟩ := r1.slice
    obtain ⟨A2, x2, rfl⟩ := r2.slice
    obtain ⟨A3, x3, rfl⟩ := r3.slice
    obtain rfl := l1.slice
    obtain rfl := l2.slice
    obtain rfl := l3.slice
    exact ⟨b', _, _, _, m0, m1, m2, m3, r1.move (fun _ _ h k => laws_markForest.IsS.like h k) a, r2.move (fun _ _ h k => laws_markForest.IsS.like h k) a, r3.move (fun _ _ h k => laws_markForest.IsI.like h k) a⟩
def laws_markForest.tot (f : Nat → Nat) : Nat → Nat
  | 0 => 0
  | i + 1 => laws_markForest.tot f i + f i
theorem laws_markForest.tot_le (f : Nat → Nat) (i n : Nat) (h : i ≤ n) : laws_markForest.tot f i ≤ laws_markForest.tot f n := by
  induction n with
  | zero => obtain rfl : i = 0 := by omega
            exact Nat.le_refl _
  | succ n ih =>
    by_cases e : i = n + 1
    · rw [e]; exact Nat.le_refl _
    · exact Nat.le_trans (ih (by omega)) (Nat.le_add_right _ _)
theorem laws_markForest.Alike.cell {lo g j e : Nat} {S : Nat → Prop} {w w' : World} {cur : Array Value} {A : Option Addr} {n c : Nat} (a : laws_markForest.Alike lo S w w') (hb : w.heap[g]? = some (.cells cur e (0, 0))) (h1 : lo ≤ g) (h2 : S g) (hj : cur[j]? = some (.slice A n c)) : w'.cell? ⟨g, j, none⟩ = some (.slice A n c) := by
  obtain ⟨cur', c1, _, c3⟩ := a.like g h1 h2 cur e hb
  obtain ⟨u, hu, l⟩ := c3 _ _ hj
  obtain rfl := l.slice
  exact (blk_cell c1 j).trans hu
set_option maxHeartbeats 4000000 in
theorem laws_markForest.markN (lo : Nat) (S : Nat → Prop) (n : Nat) (nK nV nD : Nat → Nat) (v : Value) (a : Int) (w : World) (hr : laws_markForest.Nodes lo S w v n nK nV nD) (h0 : 0 ≤ a) (h1 : a + ((laws_markForest.tot (fun i => 1 + nK i + nV i + nD i) n : Nat) : Int) ≤ 4611686018427387904) (hn : n ≤ 1099511627776) (hlo : lo ≤ w.heap.size) :
    Calls Try.prog 25 #[v, .int .i64 a] w fun e w' => e = .returned (.int .i64 (a + ((laws_markForest.tot (fun i => 1 + nK i + nV i + nD i) n : Nat) : Int))) ∧ laws_markForest.Alike lo S w w' := by
  have hu := Try.underlying58
  obtain ⟨A, c, rfl⟩ : ∃ A c, v = .slice A n c := by
    rcases hr with ⟨rfl, A, c, rfl⟩ | ⟨g, cap, cur, rfl, _⟩
    · exact ⟨A, c, rfl⟩
    · exact ⟨_, _, rfl⟩
  have HR := Aside0.mk hr
  clear hr
  obtain ⟨F, hF⟩ : ∃ F : Nat → Nat, F = fun i => 1 + nK i + nV i + nD i := ⟨_, rfl⟩
  rw [← hF] at h1 ⊢
  have HF := Aside0.mk hF
  clear hF
  have H1 := Aside0.mk h1
  clear h1
  go_enter Try.func25, Try.ntmps25
  go_wp2
  go_loopg [1, 5] n (fun gg s1 s5 wr => ∃ i : Nat, s1 = .int .i64 (a + ((laws_markForest.tot F i : Nat) : Int)) ∧ s5 = .int .i64 (i : Int) ∧ Aside0 (i ≤ n ∧ n ≤ i + gg) ∧ Aside0 (laws_markForest.Alike lo S w wr))
  case atStart => exact ⟨0, by simp [laws_markForest.tot], rfl, ⟨by omega⟩, ⟨laws_markForest.Alike.refl _ _ _⟩⟩
  case round =>
    obtain ⟨i, rfl, rfl, HI, HA⟩ := hrel
    by_cases hin : i < n
    · have c1 : decide ((i : Int) < (n : Int)) = true := decide_eq_true (by omega)
      rcases HR.out.move HA.out with ⟨hz, _⟩ | ⟨g, cap, cur, e1, g1, g2, hb, hk⟩
      · omega
      cases e1
      obtain ⟨b, vK, vV, vD, k0, k1, k2, k3, r1, r2, r3⟩ := hk i hin
      obtain ⟨AK, cK, rfl⟩ := r1.slice
      obtain ⟨AV, cV, rfl⟩ := r2.slice
      obtain ⟨AD, cD, rfl⟩ := r3.slice
      have hle : laws_markForest.tot F (i + 1) ≤ laws_markForest.tot F n := laws_markForest.tot_le F (i + 1) n (by omega)
      have hstep : laws_markForest.tot F (i + 1) = laws_markForest.tot F i + (1 + nK i + nV i + nD i) := by rw [laws_markForest.tot, HF.out]
      have hbound : a + ((laws_markForest.tot F i : Nat) : Int) + 1 + (nK i : Int) + (nV i : Int) + (nD i : Int) ≤ 4611686018427387904 := by have := H1.out; omega
      obtain ⟨T, hT⟩ : ∃ T : Int, T = a + ((laws_markForest.tot F i : Nat) : Int) := ⟨_, rfl⟩
      rw [← hT]
      rw [← hT] at hbound
      have hT0 : 0 ≤ T := by omega
      have hwK : T + 1 + (nK i : Int) + (nV i : Int) + (nD i : Int) = a + ((laws_markForest.tot F (i + 1) : Nat) : Int) := by omega
      have HWK := Aside0.mk hwK
      clear hwK hT hstep hle
      have HBk := Aside0.mk hb
      have HK := Aside0.mk (And.intro k0 (And.intro k1 (And.intro k2 k3)))
      have R1 := Aside0.mk r1
      have R2 := Aside0.mk r2
      have R3 := Aside0.mk r3
      have p1 : (0 : Int) ≤ (i : Int) := by omega
      have p2 : (i : Int) < (n : Int) := by omega
      have hw0 : wrap64 (T + 1) = T + 1 := by unfold wrap64; omega
      have hw2 : wrap64 ((i : Int) + 1) = ((i + 1 : Nat) : Int) := by unfold wrap64; omega
      have hz0 : wr.cell? ⟨g, i * 4, none⟩ = some (.bool b) := (blk_cell HBk.out (i * 4)).trans k0
      have hf0 := blk_frozen HBk.out (i * 4)
      have hz1 : wr.cell? ⟨g, i * 4 + 1, none⟩ = some (.slice AK (nK i) cK) := (blk_cell HBk.out (i * 4 + 1)).trans k1
      clear hb hk k0 k1 k2 k3 r1 r2 r3
      have A1 : ∀ X, laws_markForest.Alike lo S wr (wr.setCell ⟨g, i * 4, none⟩ (.bool X)) := fun X => laws_markForest.Alike.set HBk.out g1 g2 HK.out.1 (.inr (.inr (.inr ⟨b, X, rfl, rfl⟩)))
      have hlr : lo ≤ wr.heap.size := Nat.le_trans hlo HA.out.below.size
      go_wp2_with (first
        | (go_at_call 40; (have g_ := A1; clear g_); (with_reducible refine (laws_markForest.markS lo S (nK i) (.slice AK (nK i) cK) (T + 1) _ ?r ?a0 ?a1 ?al).mono ?_); (case r => exact R1.out.move (fun _ _ h k => laws_markForest.IsS.like h k) (A1 _)); (case a0 => omega); (case a1 => omega); (case al => exact Nat.le_trans hlr (A1 _).below.size); rintro e w2 ⟨rfl, hA⟩; have A2 := Aside0.mk ((A1 _).trans hA); clear hA; have hz2 := A2.out.cell HBk.out g1 g2 HK.out.2.2.1; clear A1)
        | (go_at_call 40; (have g_ := A2; clear g_); (with_reducible refine (laws_markForest.markS lo S (nV i) (.slice AV (nV i) cV) (T + 1 + (nK i : Int)) _ ?r ?a0 ?a1 ?al).mono ?_); (case r => exact R2.out.move (fun _ _ h k => laws_markForest.IsS.like h k) A2.out); (case a0 => omega); (case a1 => omega); (case al => exact Nat.le_trans hlr A2.out.below.size); rintro e w3 ⟨rfl, hA⟩; have A3 := Aside0.mk (A2.out.trans hA); clear hA; have hz3 := A3.out.cell HBk.out g1 g2 HK.out.2.2.2)
        | (go_at_call 13; (with_reducible refine (laws_markForest.markI lo S (nD i) (.slice AD (nD i) cD) (T + 1 + (nK i : Int) + (nV i : Int)) _ ?r ?a0 ?a1 ?al).mono ?_); (case r => exact R3.out.move (fun _ _ h k => laws_markForest.IsI.like h k) A3.out); (case a0 => omega); (case a1 => omega); (case al => exact Nat.le_trans hlr A3.out.below.size); rintro e w4 ⟨rfl, hA⟩; have A4 := Aside0.mk (A3.out.trans hA); clear hA hbound hT0 p1 p2 hw0 c1 hz0 hf0 hz1 hz2 hz3 R1 R2 R3))
      go_roundg (gk - 1)
      case measure => have := HI.out; omega
      case rel => exact ⟨i + 1, by first | (rw [← HWK.out]; done) | (rw [← HWK.out]; congr 1; omega), by first | rfl | (rw [hw2]; done) | (congr 1; omega), ⟨by have := HI.out; omega⟩, ⟨HA.out.trans A4.out⟩⟩
    · have c1 : decide ((i : Int) < (n : Int)) = false := decide_eq_false (by omega)
      have hni : i = n := by have := HI.out; omega
      subst hni
      go_wp2
      go_ret
      exact ⟨rfl, HA.out⟩
/-! A forest's own rows, and its mark -/
theorem laws_markForest.row_of {α : Type} {d : Kd α} {e : Nat} {K : Value → Prop} (hsz : d.sz = 1) (hK : ∀ (W : World) (base : Nat) (ok : Nat → Prop) (x : α) (cs : List Value), d.M W base ok x cs → ∃ u, cs = [u] ∧ K u) {W : World} {base : Nat} {ok S : Nat → Prop} {v : Value} {xs : List α} (z : α) (hS : ∀ k, ok k → S k) (h : d.R e W base ok v xs) : laws_markForest.Row base S e K W v xs.length := by
  have h' := h
  obtain ⟨inner, ho⟩ := Kd.R_own h
  rcases ho.2 with ⟨rfl, hn⟩ | ⟨g, cap, cur, rfl, hg, hh, _⟩
  · exact .inl ⟨hn, none, 0, rfl⟩
  · refine .inr ⟨g, cap, cur, rfl, hg, hS g (h'.1 g rfl), hh, fun j hj => ?_⟩
    obtain ⟨c, hcl, hM, hcc, _⟩ := Kd.R_elem h' z (j : Int) (by omega) (by omega)
    obtain ⟨u, rfl, hu⟩ := hK _ _ _ _ _ hM
    have h0 := hcc 0 u rfl
    rw [hsz, Int.toNat_natCast, Nat.mul_one, Nat.add_zero] at h0
    exact ⟨u, (blk_cell hh j).symm.trans h0, hu⟩
theorem laws_markForest.nodes_of {W : World} {base : Nat} {ok S : Nat → Prop} {v : Value} {xs : List S58} (hS : ∀ k, ok k → S k) (h : k58.R 58 W base ok v xs) :
    laws_markForest.Nodes base S W v xs.length (fun i => (xs.getD i z58).f1.length) (fun i => (xs.getD i z58).f2.length) (fun i => (xs.getD i z58).f3.length) := by
  have h' := h
  obtain ⟨inner, ho⟩ := Kd.R_own h
  rcases ho.2 with ⟨rfl, hn⟩ | ⟨g, cap, cur, rfl, hg, hh, _⟩
  · exact .inl ⟨hn, none, 0, rfl⟩
  · refine .inr ⟨g, cap, cur, rfl, hg, hS g (h'.1 g rfl), hh, fun i hi => ?_⟩
    obtain ⟨c, hcl, hM, hcc, _⟩ := Kd.R_elem h' z58 (i : Int) (by omega) (by omega)
    rw [Int.toNat_natCast] at hM
    have hsz : k58.sz = 4 := rfl
    rw [hsz, Int.toNat_natCast] at hcc
    obtain ⟨v1, v2, v3, rfl, g1, g2, g3⟩ := k58_openM hM
    have c0 := (blk_cell hh (i * 4 + 0)).symm.trans (hcc 0 _ rfl)
    have c1 := (blk_cell hh (i * 4 + 1)).symm.trans (hcc 1 _ rfl)
    have c2 := (blk_cell hh (i * 4 + 2)).symm.trans (hcc 2 _ rfl)
    have c3 := (blk_cell hh (i * 4 + 3)).symm.trans (hcc 3 _ rfl)
    exact ⟨_, v1, v2, v3, c0, c1, c2, c3, laws_markForest.row_of rfl (fun _ _ _ x cs hx => ⟨.string x, hx, x, rfl⟩) ByteArray.empty (fun k hk => hS k hk.1) g1, laws_markForest.row_of rfl (fun _ _ _ x cs hx => ⟨.string x, hx, x, rfl⟩) ByteArray.empty (fun k hk => hS k hk.1) g2, laws_markForest.row_of rfl (fun _ _ _ x cs hx => ⟨.int .i64 x, hx, x, rfl⟩) 0 (fun k hk => hS k hk.1) g3⟩
def laws_markForest.F (xs : List S58) (i : Nat) : Nat := 1 + (xs.getD i z58).f1.length + (xs.getD i z58).f2.length + (xs.getD i z58).f3.length
def laws_markForest.f (k : Nat) (xs : List S58) (a : Int) : Option Int := if 0 ≤ a ∧ a + ((laws_markForest.tot (laws_markForest.F xs) xs.length : Nat) : Int) ≤ 4611686018427387904 ∧ xs.length ≤ 1099511627776 then some (a + ((laws_markForest.tot (laws_markForest.F xs) xs.length : Nat) : Int)) else none
theorem laws_markForest.mono : ∀ xs a k, LeO (laws_markForest.f k xs a) (laws_markForest.f (k + 1) xs a) := fun _ _ _ => LeO.refl _
/-- The blocks that a forest's row leads to. -/
def laws_markForest.Own (w : World) (base : Nat) (ok : Nat → Prop) (k : Nat) : Prop := ok k ∧ base ≤ k ∧ k < w.heap.size ∧ ∃ q, q ∈ 58 :: k58.E ∧ ∃ cells, w.heap[k]? = some (.cells cells q (0, 0))
theorem laws_markForest.off {w : World} {base g t : Nat} {ok : Nat → Prop} {cs : Array Value} (hs : laws_markForest.Own w base ok g) (hb : w.heap[g]? = some (.cells cs t (0, 0))) (ht : t ∉ 58 :: k58.E) : False := by
  obtain ⟨_, _, _, q, hq, cells, hc⟩ := hs
  rw [hb] at hc
  cases hc
  exact ht hq
theorem laws_markForest.void {α : Type} {d : Kd α} {e : Nat} {W : World} {base : Nat} {ok : Nat → Prop} {v : Value} {xs : List α} (_ : Kd.S d e W base ok v xs) (W' : World) : Kd.S d e W' base ok (.slice none 0 0) [] := Kd.S_nil _ _ _ _ _
theorem laws_markForest.apart {α : Type} {d : Kd α} {e : Nat} {W W2 : World} {base : Nat} {ok S : Nat → Prop} {v : Value} {xs : List α} (hE : d.E = []) (h : d.R e W base ok v xs) (hk : Kept W W2 S) (hn : ∀ k, some k = v.ownBlock → ¬ S k) : d.R e W2 base ok v xs :=
  Kd.R_mono (Kd.R_kept (Kd.R_tight hE h) hk hn) (fun k hk => h.1 k hk.symm)
set_option maxHeartbeats 2000000 in
theorem laws_markForest.calls (k : Nat) (v : Value) (ok : Nat → Prop) (xs : List S58) (a r : Int) (base : Nat) (w : World) (hr : Kd.S k58 58 w base ok v xs) (hlo : base ≤ w.heap.size) (h : laws_markForest.f k xs a = some r) :
    Calls Try.prog 12 #[.agg #[v], .int .i64 a] w fun e w' => e = .returned (.int .i64 r) ∧ Below base w w' ∧ Kept w w' (laws_markForest.Own w base ok) := by
  unfold laws_markForest.f at h
  obtain ⟨⟨h0, h1, h2⟩, h⟩ := Option.ite_none_right_eq_some.1 h
  obtain rfl := Option.some.inj h
  have hN : ∀ W, laws_markForest.Alike base (laws_markForest.Own w base ok) w W → laws_markForest.Nodes base (laws_markForest.Own w base ok) W v xs.length (fun i => (xs.getD i z58).f1.length) (fun i => (xs.getD i z58).f2.length) (fun i => (xs.getD i z58).f3.length) := fun W hA => (laws_markForest.nodes_of (fun _ hk => hk) (Kd.S_R (Kd.S_bound hr))).move hA
  have hM : ∀ W, laws_markForest.Alike base (laws_markForest.Own w base ok) w W → Calls Try.prog 25 #[v, .int .i64 a] W fun e w' => e = .returned (.int .i64 (a + ((laws_markForest.tot (laws_markForest.F xs) xs.length : Nat) : Int))) ∧ laws_markForest.Alike base (laws_markForest.Own w base ok) W w' := fun W hA =>
    laws_markForest.markN base (laws_markForest.Own w base ok) xs.length _ _ _ v a W (hN W hA) h0 h1 h2 (Nat.le_trans hlo hA.below.size)
  obtain ⟨A, c, rfl⟩ := Kd.R_slice (Kd.S_R hr)
  obtain ⟨T, hT⟩ : ∃ T : Int, T = a + ((laws_markForest.tot (laws_markForest.F xs) xs.length : Nat) : Int) := ⟨_, rfl⟩
  rw [← hT] at hM ⊢
  have HM := Aside0.mk hM
  clear hM hN hr h h1 h2 hT
  go_enter Try.func12, Try.ntmps12
  go_wp2_with (go_at_call 25; refine (HM.out _ ?al).mono ?_; (case al => first | exact laws_markForest.Alike.refl _ _ _ | exact laws_markForest.Alike.of_below (by repeat (first | exact Below.refl _ _ | apply below_alloc | apply pw_below_drewN | apply below_drew1)) hlo); rintro e w2 ⟨rfl, hA⟩; have A2 := Aside0.mk hA; clear hA)
  go_ret
  have A3 : laws_markForest.Alike base (laws_markForest.Own w base ok) w _ := laws_markForest.Alike.trans (laws_markForest.Alike.of_below (by repeat (first | exact Below.refl _ _ | apply below_alloc | apply pw_below_drewN | apply below_drew1)) hlo) A2.out
  exact ⟨rfl, A3.below, A3.below.size, fun i hi hn => A3.kept i hn hi⟩

end Go.Proofs.Ytcefdpjlpjgaiaa.XK
