/- Small words of the session: the order of texts, and what a walk needs beside the printed words; no condition. -/
import Derived.Test.YtcnkacbgcmnokaaProg
import Derived.Test.YtcnkacbgcmnokaaWWords
import Derived.Test.YtcnkacbgcmnokaaWLast
import Derived.Laws.Strings
import Derived.Lib.SlBy
import Derived.Lib.AppendStr
namespace Go.Proofs.Ytcnkacbgcmnokaa.Xtra
open Go

theorem less_irrefl : ∀ x : List UInt8, Op.bytesLess x x = false
  | [] => rfl
  | a :: x => by simp [Op.bytesLess, less_irrefl x]
theorem less_asymm : ∀ x y : List UInt8, Op.bytesLess x y = true → Op.bytesLess y x = false
  | _, [], h => by simp [Op.bytesLess] at h
  | [], _ :: _, _ => rfl
  | a :: x, b :: y, h => by
    simp only [Op.bytesLess, Bool.or_eq_true, decide_eq_true_eq, Bool.and_eq_true, beq_iff_eq] at h
    simp only [Op.bytesLess, Bool.or_eq_false_iff, decide_eq_false_iff_not]
    rcases h with h | ⟨rfl, h⟩
    · refine ⟨fun h' => absurd (UInt8.lt_trans h h') (UInt8.lt_irrefl a), ?_⟩
      rw [Bool.and_eq_false_iff]
      left
      rw [beq_eq_false_iff_ne]
      rintro rfl
      exact UInt8.lt_irrefl _ h
    · exact ⟨UInt8.lt_irrefl a, by rw [less_asymm x y h, Bool.and_false]⟩
theorem less_total : ∀ x y : List UInt8, Op.bytesLess x y = false → x ≠ y → Op.bytesLess y x = true
  | [], [], _, h => absurd rfl h
  | a :: x, [], _, _ => rfl
  | [], b :: y, h, _ => by simp [Op.bytesLess] at h
  | a :: x, b :: y, h, hn => by
    simp only [Op.bytesLess, Bool.or_eq_false_iff, decide_eq_false_iff_not] at h
    simp only [Op.bytesLess, Bool.or_eq_true, decide_eq_true_eq, Bool.and_eq_true, beq_iff_eq]
    by_cases e : a = b
    · subst e
      right
      refine ⟨rfl, less_total x y ?_ fun e => hn (by rw [e])⟩
      simpa using h.2
    · left
      rcases UInt8.lt_or_lt_of_ne e with h' | h'
      · exact absurd h' h.1
      · exact h'
theorem less_trans : ∀ x y z : List UInt8, Op.bytesLess x y = true → Op.bytesLess y z = true → Op.bytesLess x z = true
  | _, [], _, h, _ => by simp [Op.bytesLess] at h
  | _, _ :: _, [], _, h => by simp [Op.bytesLess] at h
  | [], _ :: _, _ :: _, _, _ => rfl
  | a :: x, b :: y, c :: z, h, h' => by
    simp only [Op.bytesLess, Bool.or_eq_true, decide_eq_true_eq, Bool.and_eq_true, beq_iff_eq] at h h' ⊢
    rcases h with h | ⟨rfl, h⟩
    · rcases h' with h' | ⟨rfl, h'⟩
      · exact .inl (UInt8.lt_trans h h')
      · exact .inl h
    · rcases h' with h' | ⟨rfl, h'⟩
      · exact .inl h'
      · exact .inr ⟨rfl, less_trans x y z h h'⟩
theorem gtr_swap (x y : List UInt8) : (!(Op.bytesLess x y || x == y)) = Op.bytesLess y x := by
  cases h : Op.bytesLess x y with
  | true => simp [less_asymm x y h]
  | false =>
    by_cases e : x = y
    · subst e
      simp [less_irrefl]
    · simp [e, less_total x y h e]
theorem leq_swap (x y : List UInt8) : (Op.bytesLess x y || x == y) = !Op.bytesLess y x := by
  rw [← gtr_swap x y, Bool.not_not]

/-- '>', '<=', '>=' of texts, as the printed functions tell them. -/
theorem binOp_gtr (t : TypeId) (a b : ByteArray) : binOp .gtr t (.string a) (.string b) = pure (.bool (Op.bytesLess b.toList a.toList)) := by
  rw [← gtr_swap]
  simp [binOp, Op.stringOp]
theorem binOp_leq (t : TypeId) (a b : ByteArray) : binOp .leq t (.string a) (.string b) = pure (.bool (!Op.bytesLess b.toList a.toList)) := by
  rw [← leq_swap]
  simp [binOp, Op.stringOp]
theorem binOp_geq (t : TypeId) (a b : ByteArray) : binOp .geq t (.string a) (.string b) = pure (.bool (!Op.bytesLess a.toList b.toList)) := by
  simp [binOp, Op.stringOp]

/-- The first place at which a predicate holds. -/
theorem idx_from {α : Type} (p : α → Bool) (d x : α) : ∀ (l : List α) (k i : Nat), (hk : k < l.length) → p (l.getD k d) = true → (∀ j, j < k → p (l.getD j d) = false) → Lib.idxByFrom (fun _ y => p y) x l i = ((i + k : Nat) : Int)
  | [], k, _, hk, _, _ => absurd hk (Nat.not_lt_zero _)
  | z :: zs, 0, i, _, h, _ => by
    have h' : p z = true := h
    simp [Lib.idxByFrom, h']
  | z :: zs, k + 1, i, hk, h, hn => by
    have h0 : p z = false := hn 0 (Nat.succ_pos _)
    simp only [Lib.idxByFrom, h0, Bool.false_eq_true, if_false]
    rw [idx_from p d x zs k (i + 1) (by simpa using hk) h fun j hj => hn (j + 1) (by omega)]
    congr 1
    omega
theorem idx_hit {α : Type} (p : α → Bool) (l : List α) (d : α) (k : Nat) (hk : k < l.length) (h : p (l.getD k d) = true) (hn : ∀ j, j < k → p (l.getD j d) = false) : Lib.idxBy (fun _ y => p y) l d = k := by
  have := idx_from p d d l k 0 hk h hn
  simpa [Lib.idxBy] using this
theorem idx_none {α : Type} (p : α → Bool) (x : α) : ∀ (l : List α) (i : Nat), (∀ y ∈ l, p y = false) → Lib.idxByFrom (fun _ y => p y) x l i = -1
  | [], _, _ => rfl
  | z :: zs, i, h => by
    simp only [Lib.idxByFrom, h z List.mem_cons_self, Bool.false_eq_true, if_false]
    exact idx_none p x zs (i + 1) fun y hy => h y (List.mem_cons_of_mem _ hy)
theorem idx_miss {α : Type} (p : α → Bool) (l : List α) (d : α) (hn : ∀ j, j < l.length → p (l.getD j d) = false) : Lib.idxBy (fun _ y => p y) l d = -1 := by
  refine idx_none p d l 0 fun y hy => ?_
  obtain ⟨j, hj, rfl⟩ := List.getElem_of_mem hy
  have := hn j hj
  rwa [List.getD_eq_getElem?_getD, List.getElem?_eq_getElem hj] at this

section
open Go.RowKit Go.Proofs.YtcnkacbgcmnokaaW.PrintWords
/-- A text's bytes appended, as one step of a region that draws. -/
theorem print_append_str_step {P : Program} {ops : Array Oper} {o : Oper} {a : Act} {Q : Exit → Act → World → Prop} {Kc : Act → World → Prop} {w0 W : World} (base : Nat) (hw : Region.wanted o (yielded ops a.tmps) = true) (s x : Operand) (t u e : TypeId)
    (ho : o.op = .call { callee := .builtin .append, args := #[s, x], argTypes := #[t, u] })
    (ht : P.underlying t = some (.slice e)) (hu : P.underlying u = some .string) (hinfo : (P.info? e).map (fun i => (i.zero, i.size, i.bytes)) = some (some (.int .u8 0), 1, 1))
    (v : Value) (xs : List Int) (y : ByteArray) (hs : a.eval s = v) (hx : a.eval x = .string y)
    (HO : W.ownsRow base e 1 v xs.length (nums .u8 xs)) (HB : Below base w0 W) (hbase : base ≤ W.heap.size) (hl : xs.length + y.size ≤ 140737488355328)
    (h : ∀ v1 w1, w1.ownsRow base e 1 v1 (xs ++ bytesOf y).length (nums .u8 (xs ++ bytesOf y)) → Below base w0 w1 → W.grownBy w1 v.ownBlock → Kc (a.put o.dst v1) w1) :
    if Region.wanted o (yielded ops a.tmps) = true then Oper.wp P o a W Kc Q else Kc (a.put o.dst undef) W := by
  obtain ⟨i0, hi, hzz⟩ := Option.map_eq_some_iff.1 hinfo
  simp only [Prod.mk.injEq] at hzz
  obtain ⟨hz0, hz1, hz2⟩ := hzz
  obtain ⟨v1, w1, hr, hown, hg, _⟩ := Lib.run_append_own_string (P := P) W base t u o.type e i0 ht hu hi hz0 hz1 hz2 v xs.length (nums .u8 xs) HO y (by simp only [maxLen]; omega) hl hbase
  have hl2 : (xs ++ bytesOf y).length = xs.length + y.size := by rw [List.length_append, bytesOf_length]
  have hc : nums .u8 (xs ++ bytesOf y) = nums .u8 xs ++ Lib.strCells y := by
    rw [nums_append]
    congr 1
    simp [nums, bytesOf, Lib.strCells]
  have hrun : (execOp a.eval o).run P W = .ok (.value v1) w1 := by
    unfold execOp
    simp only [ho, resolve, invoke, builtin, Sem.run_bind, Sem.run_pure, Result.andThen_ok, List.map_toArray, List.map_cons, List.map_nil, hs, hx, hr]
  exact event_step hw hrun (h v1 w1 (by rw [hl2, hc]; exact hown) (HB.grown hg hbase (own_base HO)) hg)
end

/-- A cut's length, as the walk spells it and as the contract does. -/
theorem take_len {α : Type} (l : List α) (i : Int) (h : i ≤ (l.length : Int)) : i.toNat = (l.take i.toNat).length := by
  rw [List.length_take]
  omega
end Go.Proofs.Ytcnkacbgcmnokaa.Xtra
