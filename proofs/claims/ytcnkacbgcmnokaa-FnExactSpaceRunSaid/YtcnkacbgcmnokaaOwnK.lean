/- Rows of structs of k cells, owned by the call: as one flat row, behind a sort or a compaction of the library's; plain lemmas. -/
import Derived.Shelf.GgSortFunc.RowK
import Derived.Shelf.GgSortFunc.InsertionK
import Derived.Sort.OwnSortedInts
import Derived.Test.YtcnkacbgcmnokaaWWords
import Derived.Test.YtcnkacbgcmnokaaWKept
namespace Go.Proofs.Ytcnkacbgcmnokaa.OwnK
open Go Go.RowKit Go.Proofs Go.Proofs.YtcnkacbgcmnokaaW.PrintWords Go.Sort
set_option linter.unusedVariables false
set_option linter.unusedSimpArgs false
set_option linter.unusedSectionVars false
section
variable {α : Type} [Inhabited α] {enc : α → List Value} {k : Nat}
theorem flatMap_len (hk : ∀ x, (enc x).length = k) : ∀ l : List α, (l.flatMap enc).length = l.length * k
  | [] => by simp
  | x :: l => by rw [List.flatMap_cons, List.length_append, hk, flatMap_len hk l, List.length_cons, Nat.add_mul, Nat.one_mul]; omega
theorem flatMap_get (hk : ∀ x, (enc x).length = k) : ∀ (l : List α) (t : Nat), t < l.length * k → (l.flatMap enc)[t]? = (enc (l[t / k]!))[t % k]?
  | [], t, h => by simp at h
  | x :: l, t, h => by
    rw [List.flatMap_cons]
    have hpos : 0 < k := by rcases Nat.eq_zero_or_pos k with e | e; · subst e; simp at h
                            · exact e
    by_cases ht : t < k
    · rw [List.getElem?_append_left (by rw [hk]; exact ht), Nat.div_eq_of_lt ht, Nat.mod_eq_of_lt ht]
      rfl
    · rw [List.length_cons, Nat.add_mul, Nat.one_mul] at h
      obtain ⟨s, rfl⟩ : ∃ s, t = s + k := ⟨t - k, by omega⟩
      rw [List.getElem?_append_right (by rw [hk]; omega), hk, Nat.add_sub_cancel, flatMap_get hk l s (by omega), Nat.add_div_right _ hpos, Nat.add_mod_right]
      rfl
theorem flatK_list (hk : ∀ x, (enc x).length = k) (l : List α) : (flatK enc k l.toArray).toList = l.flatMap enc := by
  apply List.ext_getElem?
  intro t
  by_cases ht : t < l.length * k
  · rw [flatMap_get hk l t ht]
    have hpos : 0 < k := by rcases Nat.eq_zero_or_pos k with e | e; · subst e; simp at ht
                            · exact e
    have h2 := get_flatK enc k l.toArray t (by simpa using ht)
    have h3 : t < (flatK enc k l.toArray).size := by rw [size_flatK]; simpa using ht
    rw [Array.getElem?_toList, Array.getElem?_eq_getElem h3]
    rw [getElem!_pos _ t h3] at h2
    rw [h2]
    have h5 : l.toArray[t / k]! = l[t / k]! := by simp [Array.getElem!_eq_getD, List.getElem!_eq_getElem?_getD]
    have h4 : t % k < (enc l[t / k]!).length := by rw [hk]; exact Nat.mod_lt _ hpos
    rw [h5, getElem!_pos (enc l[t / k]!) (t % k) h4]
    exact (List.getElem?_eq_getElem h4).symm
  · have a1 : (l.flatMap enc)[t]? = none := List.getElem?_eq_none (by rw [flatMap_len hk]; omega)
    have a2 : (flatK enc k l.toArray).toList[t]? = none := List.getElem?_eq_none (by rw [Array.length_toList, size_flatK]; simp; omega)
    rw [a1, a2]
theorem reps_flat {R : α → List Value → Prop} (hk : ∀ x, (enc x).length = k) (hop : ∀ x c, R x c → c = enc x) : ∀ (xs : List α) (cs : List Value), Reps R k xs cs → cs = xs.flatMap enc
  | [], cs, h => by
    have := h.1
    simp at this
    simp [this]
  | x :: xs, cs, h => by
    have h0 := hop _ _ (h.2 0 x rfl)
    rw [Nat.zero_mul, List.drop_zero] at h0
    have hl := h.1
    rw [List.length_cons, Nat.add_mul, Nat.one_mul] at hl
    have ih := reps_flat hk hop xs (cs.drop k) ⟨by rw [List.length_drop, hl]; omega, fun j p hp => by
      have := h.2 (j + 1) p (by simpa using hp)
      rw [List.drop_drop]
      rwa [show k + j * k = (j + 1) * k by rw [Nat.add_mul, Nat.one_mul]; omega]⟩
    rw [List.flatMap_cons, ← h0, ← ih, List.take_append_drop]
theorem flat_reps {R : α → List Value → Prop} (hk : ∀ x, (enc x).length = k) (hmk : ∀ x, R x (enc x)) (xs : List α) : Reps R k xs (xs.flatMap enc) := by
  refine ⟨flatMap_len hk xs, fun j p hp => ?_⟩
  have e : ((xs.flatMap enc).drop (j * k)).take k = enc p := by
    have hj : j < xs.length := (List.getElem?_eq_some_iff.1 hp).1
    have hpj : xs[j]! = p := by rw [List.getElem!_eq_getElem?_getD, hp]; rfl
    apply List.ext_getElem?
    intro t
    by_cases ht : t < k
    · rw [List.getElem?_take_of_lt ht, List.getElem?_drop, flatMap_get hk xs (j * k + t) (by
        have := Nat.mul_le_mul_right k (show j + 1 ≤ xs.length from hj)
        rw [Nat.add_mul, Nat.one_mul] at this
        omega)]
      have e1 : (j * k + t) / k = j := (blk_iff k j _ (by omega)).1 ⟨by omega, by omega⟩
      have e2 : (j * k + t) % k = t := by rw [Nat.mod_eq_sub_div_mul, e1]; omega
      rw [e1, e2, hpj]
    · rw [List.getElem?_eq_none (by rw [List.length_take]; omega), List.getElem?_eq_none (by rw [hk]; omega)]
  rw [e]
  exact hmk p
theorem own_of_R {d : Kd α} (hsz : d.sz = k) (hk : ∀ x, (enc x).length = k) (hop : ∀ {w : World} {base : Nat} {ok : Nat → Prop} {x : α} {cs : List Value}, d.M w base ok x cs → cs = enc x)
    {e : Nat} {w : World} {base : Nat} {ok : Nat → Prop} {v : Value} {xs : List α} (h : d.R e w base ok v xs) : w.ownsRow base e k v xs.length (xs.flatMap enc) := by
  obtain ⟨_, inner, ho, hr⟩ := h
  rw [hsz] at ho hr
  rw [← reps_flat hk (fun x c => hop) xs inner hr]
  exact ho
theorem R_of_own {d : Kd α} (hsz : d.sz = k) (hk : ∀ x, (enc x).length = k) (hmk : ∀ (w : World) (base : Nat) (ok : Nat → Prop) (x : α), d.M w base ok x (enc x))
    {e : Nat} {w : World} {base : Nat} {ok : Nat → Prop} {v : Value} {xs : List α} (h : w.ownsRow base e k v xs.length (xs.flatMap enc)) (hok : ∀ g, v.ownBlock = some g → ok g) : d.R e w base ok v xs := by
  refine ⟨hok, xs.flatMap enc, ?_, ?_⟩
  · rw [hsz]; exact h
  · rw [hsz]; exact flat_reps hk (fun x => hmk w base _ x) xs
theorem holdsK_of_block (hk : ∀ x, (enc x).length = k) {w : World} {g : Nat} {cur : Array Value} {e : TypeId} {xs : List α} (hb : w.heap[g]? = some (.cells cur e (0, 0))) (ht : cur.toList.take (xs.length * k) = xs.flatMap enc) : HoldsK enc k w g 0 xs.toArray := by
  intro j hj
  have hj' : j < xs.length * k := by simpa using hj
  refine ⟨?_, by simp [World.frozen?, hb]⟩
  have h1 : (cur.toList.take (xs.length * k))[j]? = (flatK enc k xs.toArray).toList[j]? := by rw [ht, flatK_list hk]
  rw [List.getElem?_take_of_lt hj', Array.getElem?_toList, Array.getElem?_toList] at h1
  simp only [World.cell?, hb, Nat.zero_add]
  simp only [Option.isSome_none, Bool.false_eq_true, if_false]
  rw [h1, Array.getElem?_eq_getElem hj, getElem!_pos _ j hj]
  rfl
end
theorem heap_putF {w : World} {g n : Nat} {os : Array Obj} {cur : Array Value} {e : TypeId} {fr : Nat × Nat} (F : Array Value) (hb : w.heap[g]? = some (.cells cur e fr)) :
    (grow (putRow id (Sort.ahead w n) g 0 F) os).heap[g]? = some (.cells (putCells id 0 F cur) e fr) := by
  have hg : g < w.heap.size := (Array.getElem?_eq_some_iff.1 hb).1
  rw [heap_grow_old _ _ (by simpa using hg)]
  simp [putRow, mapBlock, Sort.ahead, Array.getElem?_modify, hb, onCells]
theorem grownBy_putF {w : World} {g n : Nat} {os : Array Obj} (F : Array Value) : w.grownBy (grow (putRow id (Sort.ahead w n) g 0 F) os) (some g) := by
  refine ⟨rfl, rfl, rfl, by simp, fun k hk hne => ?_⟩
  rw [heap_grow_old _ _ (by simpa using hk)]
  have : g ≠ k := fun e => hne (by rw [e])
  simp [putRow, mapBlock, Sort.ahead, Array.getElem?_modify, this]
theorem take_putCells (F cur : Array Value) (m : Nat) (hm : m ≤ F.size) (h : F.size ≤ cur.size) : (putCells id 0 F cur).toList.take m = F.toList.take m := by
  apply List.ext_getElem?
  intro j
  by_cases hj : j < m
  · rw [List.getElem?_take_of_lt hj, List.getElem?_take_of_lt hj, Array.getElem?_toList, Array.getElem?_toList]
    simp [putCells, show j < F.size by omega, show j < cur.size by omega]
  · rw [List.getElem?_take_eq_none (by omega), List.getElem?_take_eq_none (by omega)]
/-- A row's block with other cells: the slice that is so long owns what they hold. -/
theorem owns_putF {α : Type} [Inhabited α] {enc : α → List Value} {k : Nat} (hk : ∀ x, (enc x).length = k) {w : World} {base g cap n : Nat} {e : TypeId} {os : Array Obj} {cur F : Array Value} {ts : List α} (hbase : base ≤ g) (hb : w.heap[g]? = some (.cells cur e (0, 0)))
    (h1 : ts.length ≤ cap) (h2 : cap ≤ maxLen) (h3 : cur.size = cap * k) (h4 : F.size ≤ cur.size) (h5 : ts.length * k ≤ F.size) (h6 : F.toList.take (ts.length * k) = ts.flatMap enc) :
    (grow (putRow id (Sort.ahead w n) g 0 F) os).ownsRow base e k (.slice (some ⟨g, 0, none⟩) ts.length cap) ts.length (ts.flatMap enc) :=
  ⟨flatMap_len hk ts, .inr ⟨g, cap, _, rfl, hbase, heap_putF _ hb, h1, h2, by simp [putCells, h3], by rw [take_putCells F cur _ h5 h4]; exact h6⟩⟩
end Go.Proofs.Ytcnkacbgcmnokaa.OwnK
