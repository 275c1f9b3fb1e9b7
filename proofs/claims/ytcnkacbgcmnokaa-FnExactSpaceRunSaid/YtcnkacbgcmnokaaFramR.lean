/- Frames that differ in some slots alone; plain lemmas for regions that draw their order. -/
import Derived.Test.YtcnkacbgcmnokaaXR0
import Derived.Deep.RegionWith
namespace Go.Proofs.Ytcnkacbgcmnokaa.XR.Fram
open Go Go.RowKit Go.Proofs.YtcnkacbgcmnokaaW.PrintWords
set_option linter.unusedVariables false
set_option linter.unusedSimpArgs false
/-- A frame that differs from a0 in the slots D alone. -/
structure Fa (D : List Nat) (a0 a : Act) : Prop where
  sz : a.tmps.size = a0.tmps.size
  df : a.defers = a0.defers
  eq : ∀ k, k ∉ D → a.tmps[k]? = a0.tmps[k]?
theorem Fa.refl (D : List Nat) (a : Act) : Fa D a a := ⟨rfl, rfl, fun _ _ => rfl⟩
theorem Fa.put {D : List Nat} {a0 a : Act} (h : Fa D a0 a) {d : Nat} (hd : d ∈ D) (v : Value) : Fa D a0 ⟨a.tmps.setIfInBounds d v, a.defers⟩ :=
  ⟨by rw [← h.sz]; exact Array.size_setIfInBounds, h.df, fun k hk => by
    rw [← h.eq k hk]
    exact Array.getElem?_setIfInBounds_ne (fun e => hk (by rw [← e]; exact hd))⟩
theorem get_eq {t : Array Value} {d : Nat} {v : Value} (h : d < t.size) : (t.setIfInBounds d v)[d]?.getD undef = v := by simp [h]
theorem get_ne {t : Array Value} {d k : Nat} {v : Value} (h : d ≠ k) : (t.setIfInBounds d v)[k]?.getD undef = t[k]?.getD undef := by rw [Array.getElem?_setIfInBounds_ne h]
theorem get_some {t : Array Value} {k : Nat} (h : k < t.size) : t[k]? = some (t[k]?.getD undef) := by rw [Array.getElem?_eq_getElem h]; rfl
/-- Such a frame, told. -/
theorem Fa.eqn {a0 a : Act} : ∀ (D : List Nat), Fa D a0 a → (∀ d, d ∈ D → d < a0.tmps.size) → a = ⟨D.foldr (fun d t => t.setIfInBounds d (a.tmps[d]?.getD undef)) a0.tmps, a0.defers⟩ := by
  intro D h hD
  have key : ∀ L : List Nat, (∀ d, d ∈ L → d < a0.tmps.size) → (L.foldr (fun d t => t.setIfInBounds d (a.tmps[d]?.getD undef)) a0.tmps).size = a0.tmps.size ∧ (∀ k, k ∈ L → (L.foldr (fun d t => t.setIfInBounds d (a.tmps[d]?.getD undef)) a0.tmps)[k]? = a.tmps[k]?) ∧ (∀ k, k ∉ L → (L.foldr (fun d t => t.setIfInBounds d (a.tmps[d]?.getD undef)) a0.tmps)[k]? = a0.tmps[k]?) := by
    intro L
    induction L with
    | nil => exact fun _ => ⟨rfl, (fun k hk => absurd hk List.not_mem_nil), fun k _ => rfl⟩
    | cons x L ih =>
      intro hL
      obtain ⟨h1, h2, h3⟩ := ih (fun d hd => hL d (List.mem_cons_of_mem _ hd))
      refine ⟨by rw [List.foldr_cons, Array.size_setIfInBounds]; exact h1, fun k hk => ?_, fun k hk => ?_⟩
      · rw [List.foldr_cons]
        by_cases e : x = k
        · subst e
          rw [Array.getElem?_setIfInBounds_self_of_lt (by rw [h1]; exact hL _ (List.mem_cons_self ..))]
          exact (get_some (by rw [h.sz]; exact hL _ (List.mem_cons_self ..))).symm
        · rw [Array.getElem?_setIfInBounds_ne e]
          rcases List.mem_cons.1 hk with r | r
          · exact absurd r.symm e
          · exact h2 k r
      · rw [List.foldr_cons, Array.getElem?_setIfInBounds_ne (fun e => hk (by rw [← e]; exact List.mem_cons_self ..))]
        exact h3 k (fun hm => hk (List.mem_cons_of_mem _ hm))
  obtain ⟨h1, h2, h3⟩ := key D hD
  cases a with
  | mk tm df =>
    have ht : tm = D.foldr (fun d t => t.setIfInBounds d (tm[d]?.getD undef)) a0.tmps := by
      apply Array.ext_getElem?
      intro k
      by_cases hk : k ∈ D
      · exact (h2 k hk).symm
      · exact (h.eq k hk).trans (h3 k hk).symm
    have hdf : df = a0.defers := h.df
    rw [hdf]
    exact congrArg (fun t => Act.mk t a0.defers) ht
abbrev ph (n : Nat) : Edge := { on := n, ground := .phase }
abbrev da (n : Nat) : Edge := { on := n, ground := .data }
abbrev cn (n : Nat) : Edge := { on := n, ground := .chain }
abbrev tx (n : Nat) : Edge := { on := n, ground := .textOnly .lateStores }
abbrev gc (n : Nat) : Edge := { on := n, ground := .gcOnly .lateStores }
abbrev pt (g : Nat) : Value := .pointer (some ⟨g, 0, none⟩)
abbrev zS : Obj := .cells #[.int .i64 0, .int .i64 0, .slice none 0 0, .slice none 0 0, .slice none 0 0] 31 (0, 0)
abbrev zR : Obj := .cells #[.int .i64 0, .slice none 0 0] 33 (0, 0)
abbrev at_ (a : Act) (k : Nat) (v : Value) : Prop := a.tmps[k]?.getD undef = v
abbrev st (a : Act) (d : Nat) (v : Value) : Act := ⟨a.tmps.setIfInBounds d v, a.defers⟩
theorem st_eq {a : Act} {d : Nat} {v : Value} (h : d < a.tmps.size) : at_ (st a d v) d v := get_eq h
theorem st_ne {a : Act} {d k : Nat} {v x : Value} (h : d ≠ k) (hx : at_ a k x) : at_ (st a d v) k x := (get_ne h).trans hx
theorem ev {a : Act} {k : Nat} {v : Value} (h : at_ a k v) : a.eval (.tmp k) = v := by simpa [Act.eval] using h
end Go.Proofs.Ytcnkacbgcmnokaa.XR.Fram
