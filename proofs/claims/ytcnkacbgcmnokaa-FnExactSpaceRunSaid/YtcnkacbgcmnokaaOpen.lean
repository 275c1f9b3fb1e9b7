/- What a value of Go's reads as: whatever the reader of arguments takes at a type is told by the printed kinds; no condition. -/
import Derived.Test.YtcnkacbgcmnokaaProg
import Derived.Test.YtcnkacbgcmnokaaWWords
import Derived.ChangeArms
import Derived.Deep.Slices
import Derived.ProofKit
namespace Go.Proofs.Ytcnkacbgcmnokaa.Opn
open Go Go.Proofs.YtcnkacbgcmnokaaW.PrintWords
set_option linter.unusedVariables false

/-- Whatever reads at type t with at most m rounds is told by k, and fits Wf. -/
def Opens (P : Program) (w : World) (m : Nat) (t : TypeId) {α : Type} (k : Kd α) (Wf : α → Prop) : Prop :=
  ∀ {H : Type} (enc : TypeId × Value → H) (fuel : Nat) (cs : List Value) (x : DataW H × List MemPlace), fuel ≤ m →
    DataW.trod enc P w 0 (fun _ => true) true fuel t cs = some x → ∃ a, k.K w a cs ∧ Wf a

theorem opens_le {P : Program} {w : World} {m m' : Nat} {t : TypeId} {α : Type} {k : Kd α} {Wf : α → Prop} (h : Opens P w m t k Wf) (hm : m' ≤ m) : Opens P w m' t k Wf :=
  fun enc fuel cs x hf hx => h enc fuel cs x (Nat.le_trans hf hm) hx

theorem opens_int {P : Program} {w : World} {m : Nat} {t : TypeId} {ik : IntKind} (ht : P.underlying t = some (.int ik)) : Opens P w m t (Kd.int ik) (fun a => (Lit.int ik a).wf = true) := by
  intro H enc fuel cs x hf hx
  obtain ⟨n, rfl, _, hw⟩ := DataW.trod_int ht hx
  exact ⟨n, rfl, hw⟩
theorem opens_bool {P : Program} {w : World} {m : Nat} {t : TypeId} (ht : P.underlying t = some .bool) : Opens P w m t Kd.bool (fun _ => True) := by
  intro H enc fuel cs x hf hx
  obtain ⟨b, rfl, _⟩ := DataW.trod_bool ht hx
  exact ⟨b, rfl, trivial⟩
theorem opens_string {P : Program} {w : World} {m : Nat} {t : TypeId} (ht : P.underlying t = some .string) : Opens P w m t Kd.string (fun s => s.size ≤ maxLen) := by
  intro H enc fuel cs x hf hx
  obtain ⟨s, rfl, _, hs⟩ := DataW.trod_string ht hx
  exact ⟨s, rfl, hs⟩

theorem cells?_at {w : World} {base : Nat} {a : Addr} {n : Nat} {cs : List Value} (h : w.cells? base a n = some cs) : cs.length = n ∧ ∀ i u, cs[i]? = some u → w.cell? (a.add i) = some u := by
  obtain ⟨h1, h2, h3⟩ := World.cells?_some h
  refine ⟨h2, fun i u hu => ?_⟩
  have hi : i < n := by
    rw [← h2]
    exact (List.getElem?_eq_some_iff.1 hu).1
  rw [h3 i hi, hu]

theorem choose_list {α : Type} {p : Nat → α → Prop} : ∀ n : Nat, (∀ i, i < n → ∃ x, p i x) → ∃ l : List α, l.length = n ∧ ∀ i x, l[i]? = some x → p i x
  | 0, _ => ⟨[], rfl, fun i x h => by simp at h⟩
  | n + 1, h => by
    obtain ⟨l, hl, hp⟩ := choose_list n fun i hi => h i (by omega)
    obtain ⟨x, hx⟩ := h n (by omega)
    refine ⟨l ++ [x], by simp [hl], fun i y hy => ?_⟩
    rcases Nat.lt_or_ge i l.length with hi | hi
    · rw [List.getElem?_append_left hi] at hy
      exact hp i y hy
    · have hi' : i = n := by
        have := (List.getElem?_eq_some_iff.1 hy).1
        simp at this
        omega
      subst hi'
      rw [List.getElem?_append_right hi, hl] at hy
      simp at hy
      subst hy
      exact hx

theorem opens_slice {P : Program} {w : World} {m : Nat} {t e : TypeId} {α : Type} {k : Kd α} {Wf : α → Prop} (ht : P.underlying t = some (.slice e)) (hc : P.cellsOf e = k.sz) (he : Opens P w m e k Wf) :
    Opens P w (m + 1) t (Kd.slice e k) (fun l => l.length ≤ maxLen ∧ ∀ x ∈ l, Wf x) := by
  intro H enc fuel cs x hf hx
  rcases DataW.trod_slice ht hx with ⟨rfl, _⟩ | ⟨a, len, cap, elems, rest, n, hn, rfl, rfl, hb, hl, hm, hlen, hel, _, _⟩
  · refine ⟨[], ⟨none, 0, rfl, Nat.le_refl _, rfl, by simp, fun h => absurd h (Nat.lt_irrefl 0)⟩, by simp, fun x hx => by simp at hx⟩
  · have key : ∀ i, i < len → ∃ y : α, (∃ c, c.length = k.sz ∧ k.K w y c ∧ ∀ j u, c[j]? = some u → w.cell? (a.add (i * k.sz + j)) = some u) ∧ Wf y := by
      intro i hi
      have h1 := hel i hi
      rw [List.getElem?_eq_getElem (by omega)] at h1
      obtain ⟨c, hc1, hc2⟩ := Option.bind_eq_some_iff.1 h1
      obtain ⟨y, hK, hW⟩ := he enc n c _ (by omega) hc2
      obtain ⟨hcl, hcc⟩ := cells?_at hc1
      refine ⟨y, ⟨c, by rw [hcl, hc], hK, fun j u hu => ?_⟩, hW⟩
      rw [← add_add, ← hc]
      exact hcc j u hu
    obtain ⟨l, hll, hlp⟩ := choose_list len key
    have hcap : len ≤ 9223372036854775807 := by
      unfold maxLen at hm
      omega
    refine ⟨l, ⟨some a, cap, by rw [hll], by omega, rfl, by omega, fun _ => ⟨a, rfl, fun j p hj => (hlp j p hj).1⟩⟩, by omega, fun x hx => ?_⟩
    obtain ⟨i, hi⟩ := List.getElem?_of_mem hx
    exact (hlp i x hi).2

/-- A struct's cells from offset o on: the first field's, and the rest. -/
theorem pair_at {α β : Type} {a : Kd α} {b : Kd β} {w : World} {x : α} {y : β} {cs : List Value} {o n p : Nat} (hp : o + n = p) (h1 : a.K w x ((cs.drop o).take n)) (h2 : b.K w y (cs.drop p)) : (Kd.pair a b).K w (x, y) (cs.drop o) :=
  ⟨(cs.drop o).take n, cs.drop p, by
    rw [← hp, ← List.drop_drop]
    exact (List.take_append_drop n _).symm, h1, h2⟩
theorem last_at {α : Type} {a : Kd α} {w : World} {x : α} {cs : List Value} {o n p : Nat} (hl : cs.length = p) (hp : o + n = p) (h : a.K w x ((cs.drop o).take n)) : a.K w x (cs.drop o) := by
  rw [List.take_of_length_le (by rw [List.length_drop]; omega)] at h
  exact h
/-- A field's own reading. -/
theorem field_at {H : Type} {xs : List (DataW H × List MemPlace)} {o : Option (DataW H × List MemPlace)} {i n : Nat} (h : o = xs[i]?) (hl : xs.length = n) (hi : i < n) : ∃ y, o = some y :=
  ⟨xs[i], by rw [h, List.getElem?_eq_getElem (by omega)]⟩

end Go.Proofs.Ytcnkacbgcmnokaa.Opn
