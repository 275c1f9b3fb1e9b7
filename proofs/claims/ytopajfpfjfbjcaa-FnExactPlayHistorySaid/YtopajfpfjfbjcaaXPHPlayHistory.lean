-- Written for this claim: a contract of one function, proved by hand; the places of its template filled by a program.
import Derived.Test.YtopajfpfjfbjcaaXP0
import Derived.Test.YtopajfpfjfbjcaaXP8
import Derived.Test.YtopajfpfjfbjcaaXP9
import Derived.Maps.Own
import Derived.Maps.OwnOps
import Derived.Maps.RangeWalk
import Derived.Maps.Views
import Derived.Maps.StringElems
import Derived.StringKeys
import Derived.Lib.Walk
import Derived.Shelf.Abstract
import Derived.Test.YtopajfpfjfbjcaaWGuard
import Derived.Test.YtopajfpfjfbjcaaOwnS
import Derived.Test.YtopajfpfjfbjcaaLayE
import Derived.Deep.RegionWith
namespace Go.Proofs.Ytopajfpfjfbjcaa.XP
open Go Go.RowKit Go.Proofs.YtopajfpfjfbjcaaW.PrintWords Go.Proofs.YtopajfpfjfbjcaaW.PrintLast Go.Proofs.YtopajfpfjfbjcaaW.PrintMore
set_option linter.unusedVariables false
set_option linter.unusedSimpArgs false
open Go.Sort Go.Lib Go.Maps
open Go.Proofs.Ytopajfpfjfbjcaa.Xtra (less_irrefl less_asymm less_total less_trans)
abbrev impl_PlayHistory.H := S47
abbrev impl_PlayHistory.T := S70
instance impl_PlayHistory.inh : Inhabited impl_PlayHistory.T := ⟨z70⟩
def impl_PlayHistory.enc (x : impl_PlayHistory.T) : List Value := [.string x.f0, .string x.f1]
/-- One key ahead of another one. -/
def impl_PlayHistory.lt (x y : impl_PlayHistory.T) : Bool := Op.bytesLess x.f0.toList y.f0.toList
def impl_PlayHistory.cf (x y : impl_PlayHistory.T) : Int := (cmp_Compare_string.f x.f0 y.f0).getD 0
theorem impl_PlayHistory.cf_some (x y : impl_PlayHistory.T) : cmp_Compare_string.f x.f0 y.f0 = some (impl_PlayHistory.cf x y) := by
  unfold impl_PlayHistory.cf cmp_Compare_string.f cmp_isNaN_string.f
  simp only [Option.bind_some]
  repeat' (first | rfl | split)
theorem impl_PlayHistory.lt_cf (x y : impl_PlayHistory.T) : ltOf impl_PlayHistory.cf x y = impl_PlayHistory.lt x y := by
  unfold ltOf impl_PlayHistory.cf impl_PlayHistory.lt cmp_Compare_string.f cmp_isNaN_string.f
  have e1 : (x.f0.toList != x.f0.toList) = false := by simp
  have e2 : (y.f0.toList != y.f0.toList) = false := by simp
  simp only [Option.bind_some, e1, e2, Bool.false_eq_true, if_false]
  cases h : Op.bytesLess x.f0.toList y.f0.toList with
  | true => simp
  | false => cases Op.bytesLess y.f0.toList x.f0.toList <;> simp
theorem impl_PlayHistory.ntrans (a b c : List UInt8) (h1 : Op.bytesLess a b = false) (h2 : Op.bytesLess b c = false) : Op.bytesLess a c = false := by
  by_cases e1 : a = b
  · rw [e1]; exact h2
  · by_cases e2 : b = c
    · rw [← e2]; exact h1
    · exact less_asymm _ _ (less_trans _ _ _ (less_total _ _ h2 e2) (less_total _ _ h1 e1))
theorem impl_PlayHistory.ltOf_is : ltOf impl_PlayHistory.cf = impl_PlayHistory.lt := by
  funext x y
  exact impl_PlayHistory.lt_cf x y
theorem impl_PlayHistory.swo : SWO (ltOf impl_PlayHistory.cf) := by
  rw [impl_PlayHistory.ltOf_is]
  exact ⟨fun x => less_irrefl _, fun x y z h1 h2 => less_trans _ _ _ h1 h2, fun x y z h1 h2 => impl_PlayHistory.ntrans _ _ _ h1 h2⟩
theorem impl_PlayHistory.world2 (W : World) (a b : Obj) (q : Nat) : ((W.alloc a).alloc b).drewN q = grow (W.drewN q) #[a, b] := by
  have h : (W.heap.push a).push b = W.heap ++ #[a, b] := by
    apply Array.ext'
    simp
  show { W with heap := (W.heap.push a).push b, drawn := W.drawn + q } = { W with heap := W.heap ++ #[a, b], drawn := W.drawn + q }
  rw [h]
set_option maxHeartbeats 1000000 in
theorem impl_PlayHistory.cmp (x y : impl_PlayHistory.T) (W : World) : Calls Try.prog 56 #[.agg (impl_PlayHistory.enc x).toArray, .agg (impl_PlayHistory.enc y).toArray] W fun e w' => e = .returned (.int .i64 (impl_PlayHistory.cf x y)) ∧ ∃ q os', w' = grow (W.drewN q) os' := by
  have HC := Aside0.mk (impl_PlayHistory.cf_some x y)
  generalize impl_PlayHistory.cf x y = c at HC ⊢
  obtain ⟨x0, x1⟩ := x
  obtain ⟨y0, y1⟩ := y
  show Calls _ _ #[.agg #[.string x0, .string x1], .agg #[.string y0, .string y1]] _ _
  go_enter Try.func56, Try.ntmps56
  go_wp2_with (go_at_call 57; (with_reducible refine (cmp_Compare_string.calls x0 y0 c _ HC.out).mono ?_); rintro e w' ⟨rfl, ⟨q, rfl⟩⟩)
  go_ret
  exact ⟨rfl, q, _, impl_PlayHistory.world2 _ _ _ _⟩
/-! What the map holds, as a rising list -/
def impl_PlayHistory.look : List impl_PlayHistory.T → ByteArray → ByteArray
  | [], _ => ⟨#[]⟩
  | e :: r, x => if e.f0.toList = x.toList then e.f1 else impl_PlayHistory.look r x
def impl_PlayHistory.put : List impl_PlayHistory.T → ByteArray → ByteArray → List impl_PlayHistory.T
  | [], x, v => [⟨x, v⟩]
  | e :: r, x, v => if Op.bytesLess e.f0.toList x.toList = true then e :: impl_PlayHistory.put r x v else if e.f0.toList = x.toList then ⟨x, v⟩ :: r else ⟨x, v⟩ :: e :: r
def impl_PlayHistory.Up (st : List impl_PlayHistory.T) : Prop := st.Pairwise fun a b => impl_PlayHistory.lt a b = true
theorem impl_PlayHistory.txt {a b : ByteArray} (h : a.toList = b.toList) : a = b := WideShapes.bytes_inj (by rwa [ByteArray.toList_eq, ByteArray.toList_eq] at h)
theorem impl_PlayHistory.dat (a : ByteArray) : a.data.toList = a.toList := (ByteArray.toList_eq a).symm
theorem impl_PlayHistory.look_same : ∀ (st : List impl_PlayHistory.T) (x v : ByteArray), impl_PlayHistory.look (impl_PlayHistory.put st x v) x = v
  | [], x, v => by simp [impl_PlayHistory.put, impl_PlayHistory.look]
  | e :: r, x, v => by
    unfold impl_PlayHistory.put
    by_cases h1 : Op.bytesLess e.f0.toList x.toList = true
    · rw [if_pos h1, impl_PlayHistory.look, if_neg (fun h => by rw [h, less_irrefl] at h1; cases h1)]
      exact impl_PlayHistory.look_same r x v
    · rw [if_neg h1]
      by_cases h2 : e.f0.toList = x.toList
      · rw [if_pos h2, impl_PlayHistory.look, if_pos rfl]
      · rw [if_neg h2, impl_PlayHistory.look, if_pos rfl]
theorem impl_PlayHistory.look_other : ∀ (st : List impl_PlayHistory.T) (x v y : ByteArray), y.toList ≠ x.toList → impl_PlayHistory.look (impl_PlayHistory.put st x v) y = impl_PlayHistory.look st y
  | [], x, v, y, h => by
    show (if x.toList = y.toList then v else (⟨#[]⟩ : ByteArray)) = ⟨#[]⟩
    exact if_neg (fun e => h e.symm)
  | e :: r, x, v, y, h => by
    unfold impl_PlayHistory.put
    by_cases h1 : Op.bytesLess e.f0.toList x.toList = true
    · rw [if_pos h1, impl_PlayHistory.look, impl_PlayHistory.look, impl_PlayHistory.look_other r x v y h]
    · rw [if_neg h1]
      by_cases h2 : e.f0.toList = x.toList
      · rw [if_pos h2, impl_PlayHistory.look, impl_PlayHistory.look, if_neg (fun e => h e.symm), if_neg (fun e' => h (e'.symm.trans h2))]
      · rw [if_neg h2, impl_PlayHistory.look, if_neg (fun e => h e.symm)]
theorem impl_PlayHistory.mem_put : ∀ (st : List impl_PlayHistory.T) (x v : ByteArray) (t : List UInt8), (∃ e ∈ impl_PlayHistory.put st x v, e.f0.toList = t) ↔ (t = x.toList ∨ ∃ e ∈ st, e.f0.toList = t)
  | [], x, v, t => by
    simp [impl_PlayHistory.put, eq_comm]
  | e :: r, x, v, t => by
    have ih := impl_PlayHistory.mem_put r x v t
    unfold impl_PlayHistory.put
    by_cases h1 : Op.bytesLess e.f0.toList x.toList = true
    · rw [if_pos h1]
      simp only [List.mem_cons, exists_eq_or_imp, ih]
      constructor
      · rintro (h | h | h)
        · exact .inr (.inl h)
        · exact .inl h
        · exact .inr (.inr h)
      · rintro (h | h | h)
        · exact .inr (.inl h)
        · exact .inl h
        · exact .inr (.inr h)
    · rw [if_neg h1]
      by_cases h2 : e.f0.toList = x.toList
      · rw [if_pos h2]
        simp only [List.mem_cons, exists_eq_or_imp]
        constructor
        · rintro (h | h)
          · exact .inl h.symm
          · exact .inr (.inr h)
        · rintro (h | h | h)
          · exact .inl h.symm
          · exact .inl (h2.symm.trans h)
          · exact .inr h
      · rw [if_neg h2]
        simp only [List.mem_cons, exists_eq_or_imp]
        constructor
        · rintro (h | h)
          · exact .inl h.symm
          · exact .inr h
        · rintro (h | h)
          · exact .inl h.symm
          · exact .inr h
theorem impl_PlayHistory.put_mem : ∀ (st : List impl_PlayHistory.T) (x v : ByteArray) (e : impl_PlayHistory.T), e ∈ impl_PlayHistory.put st x v → e = ⟨x, v⟩ ∨ e ∈ st
  | [], x, v, e, h => by
    simp [impl_PlayHistory.put] at h
    exact .inl h
  | e0 :: r, x, v, e, h => by
    unfold impl_PlayHistory.put at h
    by_cases h1 : Op.bytesLess e0.f0.toList x.toList = true
    · rw [if_pos h1] at h
      rcases List.mem_cons.1 h with h | h
      · exact .inr (by rw [h]; exact List.mem_cons_self)
      · rcases impl_PlayHistory.put_mem r x v e h with h | h
        · exact .inl h
        · exact .inr (List.mem_cons_of_mem _ h)
    · rw [if_neg h1] at h
      by_cases h2 : e0.f0.toList = x.toList
      · rw [if_pos h2] at h
        rcases List.mem_cons.1 h with h | h
        · exact .inl h
        · exact .inr (List.mem_cons_of_mem _ h)
      · rw [if_neg h2] at h
        rcases List.mem_cons.1 h with h | h
        · exact .inl h
        · exact .inr h
theorem impl_PlayHistory.put_up : ∀ (st : List impl_PlayHistory.T) (x v : ByteArray), impl_PlayHistory.Up st → impl_PlayHistory.Up (impl_PlayHistory.put st x v)
  | [], x, v, _ => by simp [impl_PlayHistory.put, impl_PlayHistory.Up]
  | e :: r, x, v, h => by
    obtain ⟨h0, hr⟩ := List.pairwise_cons.1 h
    unfold impl_PlayHistory.put
    by_cases h1 : Op.bytesLess e.f0.toList x.toList = true
    · rw [if_pos h1]
      refine List.pairwise_cons.2 ⟨fun a ha => ?_, impl_PlayHistory.put_up r x v hr⟩
      rcases impl_PlayHistory.put_mem r x v a ha with rfl | ha
      · exact h1
      · exact h0 a ha
    · rw [if_neg h1]
      have h1' : Op.bytesLess e.f0.toList x.toList = false := by simpa using h1
      by_cases h2 : e.f0.toList = x.toList
      · rw [if_pos h2]
        refine List.pairwise_cons.2 ⟨fun a ha => ?_, hr⟩
        have := h0 a ha
        unfold impl_PlayHistory.lt at this ⊢
        rwa [h2] at this
      · rw [if_neg h2]
        have hx : Op.bytesLess x.toList e.f0.toList = true := less_total _ _ h1' h2
        refine List.pairwise_cons.2 ⟨fun a ha => ?_, h⟩
        rcases List.mem_cons.1 ha with rfl | ha
        · exact hx
        · exact less_trans _ _ _ hx (h0 a ha)
theorem impl_PlayHistory.uniq {st : List impl_PlayHistory.T} (h : impl_PlayHistory.Up st) {a b : impl_PlayHistory.T} (ha : a ∈ st) (hb : b ∈ st) (e : a.f0.toList = b.f0.toList) : a = b := by
  obtain ⟨i, hi, rfl⟩ := List.getElem_of_mem ha
  obtain ⟨j, hj, rfl⟩ := List.getElem_of_mem hb
  have hp := List.pairwise_iff_getElem.1 h
  rcases Nat.lt_trichotomy i j with hij | hij | hij
  · have := hp i j hi hj hij
    unfold impl_PlayHistory.lt at this
    rw [e, less_irrefl] at this
    cases this
  · subst hij
    rfl
  · have := hp j i hj hi hij
    unfold impl_PlayHistory.lt at this
    rw [e, less_irrefl] at this
    cases this
theorem impl_PlayHistory.look_mem : ∀ (st : List impl_PlayHistory.T) (x : ByteArray), (∃ e ∈ st, e.f0.toList = x.toList) → (⟨x, impl_PlayHistory.look st x⟩ : impl_PlayHistory.T) ∈ st
  | [], x, h => by simp at h
  | e :: r, x, h => by
    unfold impl_PlayHistory.look
    by_cases h1 : e.f0.toList = x.toList
    · rw [if_pos h1, ← impl_PlayHistory.txt h1]
      exact List.mem_cons_self
    · rw [if_neg h1]
      refine List.mem_cons_of_mem _ (impl_PlayHistory.look_mem r x ?_)
      obtain ⟨a, ha, hax⟩ := h
      rcases List.mem_cons.1 ha with rfl | ha
      · exact absurd hax h1
      · exact ⟨a, ha, hax⟩
structure impl_PlayHistory.Rel (D : DataW Unit) (st : List impl_PlayHistory.T) : Prop where
  isMap : IsMap D
  up : impl_PlayHistory.Up st
  at_ : ∀ x : ByteArray, D.atKey (.string x.data.toList) (.lit (.string [])) = .lit (.string (impl_PlayHistory.look st x).data.toList)
  has_ : ∀ x : ByteArray, has D (.string x.data.toList) = true ↔ ∃ e ∈ st, e.f0.toList = x.toList
theorem impl_PlayHistory.Rel.start : impl_PlayHistory.Rel (.map []) [] :=
  ⟨isMap_empty, List.Pairwise.nil, fun _ => atKey_of_not_has rfl _, fun x => by simp [has_eq]⟩
theorem impl_PlayHistory.Rel.step {D : DataW Unit} {st : List impl_PlayHistory.T} (h : impl_PlayHistory.Rel D st) (x v : ByteArray) : impl_PlayHistory.Rel (D.put (.string x.data.toList) (.lit (.string v.data.toList))) (impl_PlayHistory.put st x v) := by
  have ne : ∀ y : ByteArray, y.toList ≠ x.toList → (Lit.string y.data.toList) ≠ .string x.data.toList := fun y hy q => hy (by
    injection q with q
    rwa [impl_PlayHistory.dat, impl_PlayHistory.dat] at q)
  refine ⟨h.isMap.put _ _, impl_PlayHistory.put_up st x v h.up, fun y => ?_, fun y => ?_⟩
  · by_cases e : y.toList = x.toList
    · rw [impl_PlayHistory.txt e, impl_PlayHistory.look_same, atKey_put_same (k := .string x.data.toList) h.isMap trivial]
    · rw [impl_PlayHistory.look_other st x v y e, atKey_put_other (ne y e)]
      exact h.at_ y
  · rw [impl_PlayHistory.mem_put]
    by_cases e : y.toList = x.toList
    · rw [impl_PlayHistory.txt e]
      exact ⟨fun _ => .inl rfl, fun _ => has_put_same (k := .string x.data.toList) h.isMap trivial _⟩
    · rw [has_put_other (ne y e), h.has_]
      exact ⟨fun hh => .inr hh, fun hh => hh.resolve_left e⟩
/-! The function -/
def impl_PlayHistory.go (k : Nat) (C : List Int) : List impl_PlayHistory.H → List ByteArray → List impl_PlayHistory.T → Option (List ByteArray × List impl_PlayHistory.T × Int)
  | [], out, st => some (out, st, 0)
  | x :: xs, out, st => (slices_Contains_int_int.f k C x.f0).bind fun b => if b = true then (if x.f1 = 1 then (if out.length < 8796093022208 then impl_PlayHistory.go k C xs (out ++ [impl_PlayHistory.look st x.f2]) st else none) else if x.f1 = 2 then impl_PlayHistory.go k C xs out (impl_PlayHistory.put st x.f2 x.f3) else impl_PlayHistory.go k C xs out st) else impl_PlayHistory.go k C xs out st
def impl_PlayHistory.f (k : Nat) (l0 : List impl_PlayHistory.H) : Option (List ByteArray × List impl_PlayHistory.T × Int) := (impl_historyCode.f l0).bind fun t => if t = 0 then ((impl_committed.f k l0).bind fun C => impl_PlayHistory.go k C l0 [] []) else some ([], [], t)
theorem impl_PlayHistory.go_mono (k : Nat) (C : List Int) : ∀ (l : List impl_PlayHistory.H) (out : List ByteArray) (st : List impl_PlayHistory.T), LeO (impl_PlayHistory.go k C l out st) (impl_PlayHistory.go (k + 1) C l out st)
  | [], out, st => LeO.refl _
  | x :: xs, out, st => by
    unfold impl_PlayHistory.go
    refine LeO.bind (slices_Contains_int_int.mono C x.f0 k) (fun b => ?_)
    exact LeO.ite (LeO.ite (LeO.ite (impl_PlayHistory.go_mono k C xs _ _) (LeO.refl _)) (LeO.ite (impl_PlayHistory.go_mono k C xs _ _) (impl_PlayHistory.go_mono k C xs _ _))) (impl_PlayHistory.go_mono k C xs _ _)
theorem impl_PlayHistory.mono : ∀ l0 k, LeO (impl_PlayHistory.f k l0) (impl_PlayHistory.f (k + 1) l0) := by
  intro l0 k
  unfold impl_PlayHistory.f
  exact LeO.bind (LeO.refl _) (fun t => LeO.ite (LeO.bind (impl_committed.mono l0 k) (fun C => impl_PlayHistory.go_mono k C l0 [] [])) (LeO.refl _))
/-! The map beside rows -/
theorem impl_PlayHistory.law : Keyed Try.prog 9 := string_keyed Try.underlying9
theorem impl_PlayHistory.zero (w : World) : (zeroValue 9).run Try.prog w = .ok (.string ⟨#[]⟩) w := by kernel_rfl
theorem impl_PlayHistory.row_map {α : Type} {d : Kd α} {e base b n : Nat} {w w1 : World} {ok : Nat → Prop} {v : Value} {xs : List α} {D : DataW Unit} (h : d.R e w base ok v xs) (hm : w.ownsMap Try.prog 9 (plainElem Try.prog 9) b n D) (hg : w.grownBy w1 (some b)) : d.R e w1 base ok v xs := by
  obtain ⟨es, clock, hb, _⟩ := hm
  refine Kd.R_mono (Kd.R_move (Kd.R_bound h) (fun k hk => hg.block k hk.2.2.1 (fun he => ?_))) (fun _ hk => hk.1)
  obtain ⟨_, _, _, q, _, cells, hc⟩ := hk
  injection he with he
  subst he
  rw [hb] at hc
  cases hc
theorem impl_PlayHistory.row_iter {α : Type} {d : Kd α} {e base b r n cnt : Nat} {left : Lit → Bool} {w w1 : World} {ok : Nat → Prop} {v : Value} {xs : List α} {D : DataW Unit} (h : d.R e w base ok v xs) (hm : w.ranges Try.prog 9 (plainElem Try.prog 9) b r n D left cnt) (hg : w.grownBy w1 (some r)) : d.R e w1 base ok v xs := by
  obtain ⟨es, clock, since, seen, c0, _, _, _, _, hb, _⟩ := hm
  refine Kd.R_mono (Kd.R_move (Kd.R_bound h) (fun k hk => hg.block k hk.2.2.1 (fun he => ?_))) (fun _ hk => hk.1)
  obtain ⟨_, _, _, q, _, cells, hc⟩ := hk
  injection he with he
  subst he
  rw [hb] at hc
  cases hc
theorem impl_PlayHistory.map_off {α : Type} {d : Kd α} {e base b n : Nat} {w : World} {ok : Nat → Prop} {v : Value} {xs : List α} {D : DataW Unit} (h : d.R e w base ok v xs) (hm : w.ownsMap Try.prog 9 (plainElem Try.prog 9) b n D) : some b ≠ v.ownBlock := by
  obtain ⟨es, clock, hb, _⟩ := hm
  intro he
  obtain ⟨cells, hc⟩ := Kd.R_typed h b he.symm
  rw [hb] at hc
  cases hc
theorem impl_PlayHistory.iter_off {α : Type} {d : Kd α} {e base b r n cnt : Nat} {left : Lit → Bool} {w : World} {ok : Nat → Prop} {v : Value} {xs : List α} {D : DataW Unit} (h : d.R e w base ok v xs) (hm : w.ranges Try.prog 9 (plainElem Try.prog 9) b r n D left cnt) : some r ≠ v.ownBlock := by
  obtain ⟨es, clock, since, seen, c0, _, _, _, _, hb, _⟩ := hm
  intro he
  obtain ⟨cells, hc⟩ := Kd.R_typed h r he.symm
  rw [hb] at hc
  cases hc
/-- m[k] at texts. -/
theorem impl_PlayHistory.at_look {P : Program} (w : World) {ops : Array Oper} {rest : List Oper} {o : Oper} {a : Act} {Q : Exit → Act → World → Prop}
    (hg : o.guard = none) (m x : Operand) (t : TypeId) (hop : o.op = Op.lookup t m x false)
    (k e : TypeId) (K : Keyed P k) (ht : P.underlying t = some (.map k e)) (he : P.underlying e = some .string) (hz : (zeroValue e).run P w = .ok (.string ⟨#[]⟩) w) (b n : Nat) (D : DataW Unit)
    (hm : a.eval m = .map (some b)) (hown : w.ownsMap P k (plainElem P e) b n D) (key : Value) (kl : Lit) (hx : a.eval x = key) (hkey : keyOf P k key = some kl)
    (hK : ∀ c : ByteArray, D.atKey kl (.lit (.string [])) = .lit (.string c.data.toList) → wpList P ops Q rest (a.put o.dst (.string c)) w) :
    wpList P ops Q (o :: rest) a w := by
  refine wpList_plain hg fun K' hK' => ?_
  obtain ⟨v, ps, hrun, hv⟩ := hown.lookup K ht hz (plainElem_string he (s := ⟨#[]⟩) (Nat.zero_le _)) hkey
  obtain ⟨c, rfl, hc, _⟩ := plainElem_string_inv he hv
  simp only [Prod.mk.injEq] at hc
  unfold Oper.wp
  simp [execOp, hop, hm, hx, hrun, Result.andThen]
  exact hK' _ _ (hK c hc.1)
/-- The range's step, keys and elements texts. -/
theorem impl_PlayHistory.at_nxt {P : Program} (w : World) {ops : Array Oper} {rest : List Oper} {o : Oper} {a : Act} {Q : Exit → Act → World → Prop}
    (hg : o.guard = none) (it : Operand) (hop : o.op = Op.next it false) (k e : TypeId) (K : Keyed P k) (hk : P.underlying k = some .string) (he : P.underlying e = some .string)
    (b r n : Nat) (D : DataW Unit) (left : Lit → Bool) (cnt : Nat) (hit : a.eval it = .pointer (some ⟨r, 0, none⟩)) (h : w.ranges P k (plainElem P e) b r n D left cnt)
    (hDone : cnt = 0 → (∀ kl, left kl = false) → wpList P ops Q rest (a.put o.dst (.tuple #[.bool false])) w)
    (hMore : ∀ (x c : ByteArray) (w' : World) (cnt' : Nat), left (.string x.data.toList) = true → (∀ zd, D.atKey (.string x.data.toList) zd = .lit (.string c.data.toList)) → w'.ranges P k (plainElem P e) b r n D (fun z => left z && !z.sameKey (.string x.data.toList)) cnt' → cnt' < cnt →
      w.grownBy w' (some r) → w'.heap.size = w.heap.size → (Instr.entry (.pointer (some ⟨r, 0, none⟩))).run P w' = .ok (.tuple #[.string x, .string c]) w' → wpList P ops Q rest (a.put o.dst (.tuple #[.bool true, .string x, .string c])) w') :
    wpList P ops Q (o :: rest) a w :=
  wpList_next_ranges w hg it hop k K (plainElem P e) Value.string Value.string (fun key kl hkey => by obtain ⟨x, rfl, _⟩ := WideMaps.string_of_keyOf hk hkey; exact ⟨x, rfl⟩) (fun v y hv => by obtain ⟨c, rfl, _⟩ := plainElem_string_inv he hv; exact ⟨c, rfl⟩)
    b r n D left cnt hit h hDone (fun x c kl y w' cnt' hkey hlk hv hat hrg hlt hgr hsz hen => by
      obtain ⟨x', ex, rfl, _⟩ := WideMaps.string_of_keyOf hk hkey
      cases ex
      obtain ⟨c', ec, rfl, _⟩ := plainElem_string_inv he hv
      cases ec
      exact hMore x c w' cnt' hlk hat hrg hlt hgr hsz hen)
theorem impl_PlayHistory.cnt_le {P : Program} {k : TypeId} {R : Value → Option (DataW Unit × List MemPlace)} {w : World} {b r n cnt : Nat} {D : DataW Unit} {left : Lit → Bool} (h : w.ranges P k R b r n D left cnt) : cnt ≤ n := by
  obtain ⟨es, clock, since, seen, c0, _, _, hs, _, _, _, hc, _⟩ := h
  rw [← hc]
  unfold leftOf
  exact Nat.le_trans (Array.size_filter_le ..) hs
/-! The entries of the map -/
/-- What the range has told so far. -/
structure impl_PlayHistory.Told (st out : List impl_PlayHistory.T) (left : Lit → Bool) : Prop where
  nodup : out.Nodup
  mem : ∀ e, e ∈ out ↔ (e ∈ st ∧ left (.string e.f0.data.toList) = false)
theorem impl_PlayHistory.Told.start {D : DataW Unit} {st : List impl_PlayHistory.T} (h : impl_PlayHistory.Rel D st) : impl_PlayHistory.Told st [] (has D) := by
  refine ⟨List.nodup_nil, fun e => ⟨fun h => by simp at h, fun ⟨h1, h2⟩ => ?_⟩⟩
  rw [(h.has_ e.f0).2 ⟨e, h1, rfl⟩] at h2
  cases h2
theorem impl_PlayHistory.Told.step {st out : List impl_PlayHistory.T} {left : Lit → Bool} (hu : impl_PlayHistory.Up st) (h : impl_PlayHistory.Told st out left) (e0 : impl_PlayHistory.T) (h0 : e0 ∈ st) (hl : left (.string e0.f0.data.toList) = true) : impl_PlayHistory.Told st (out ++ [e0]) (fun z => left z && !z.sameKey (.string e0.f0.data.toList)) := by
  have h1 : e0 ∉ out := fun hm => by
    have := ((h.mem e0).1 hm).2
    rw [hl] at this
    cases this
  refine ⟨?_, fun e => ?_⟩
  · rw [List.nodup_append]
    refine ⟨h.nodup, by simp, fun a ha b hb => ?_⟩
    rw [List.mem_singleton] at hb
    subst hb
    exact fun e => h1 (e ▸ ha)
  · rw [List.mem_append, List.mem_singleton, h.mem e]
    constructor
    · rintro (⟨h2, h3⟩ | rfl)
      · exact ⟨h2, by rw [h3]; rfl⟩
      · refine ⟨h0, ?_⟩
        have : (Lit.string e.f0.data.toList).sameKey (.string e.f0.data.toList) = true := WideAt.sameKey_self trivial
        simp only [this, Bool.not_true, Bool.and_false]
    · rintro ⟨h2, h3⟩
      cases h4 : left (.string e.f0.data.toList) with
      | false => exact .inl ⟨h2, rfl⟩
      | true =>
        right
        simp only [h4, Bool.true_and, Bool.not_eq_false'] at h3
        have h5 := WideAt.sameKey_eq h3
        injection h5 with h5
        rw [impl_PlayHistory.dat, impl_PlayHistory.dat] at h5
        exact impl_PlayHistory.uniq hu h2 h0 h5
theorem impl_PlayHistory.Told.ends {st out : List impl_PlayHistory.T} {left : Lit → Bool} (hu : impl_PlayHistory.Up st) (h : impl_PlayHistory.Told st out left) (hl : ∀ kl, left kl = false) : (out.mergeSort fun x y => !impl_PlayHistory.lt y x) = st ∧ (∀ x ∈ out, ∀ y ∈ out, impl_PlayHistory.lt x y = false → impl_PlayHistory.lt y x = false → x = y) := by
  have hmem : ∀ e, e ∈ out ↔ e ∈ st := fun e => by rw [h.mem e]; exact ⟨fun h => h.1, fun h => ⟨h, hl _⟩⟩
  have hst : st.Nodup := hu.imp (fun {a b} hab e => by
    subst e
    unfold impl_PlayHistory.lt at hab
    rw [less_irrefl] at hab
    cases hab)
  have hp : out.Perm st := (List.perm_ext_iff_of_nodup h.nodup hst).2 hmem
  have hT : ∀ x ∈ st, ∀ y ∈ st, impl_PlayHistory.lt x y = false → impl_PlayHistory.lt y x = false → x = y := fun x hx y hy h1 h2 => by
    refine impl_PlayHistory.uniq hu hx hy ?_
    refine Decidable.byContradiction fun hne => ?_
    have := less_total _ _ h1 hne
    unfold impl_PlayHistory.lt at h2
    rw [this] at h2
    cases h2
  refine ⟨?_, fun x hx y hy => hT x ((hmem x).1 hx) y ((hmem y).1 hy)⟩
  refine List.Perm.eq_of_pairwise (le := fun x y => (!impl_PlayHistory.lt y x) = true) ?_ ?_ ?_ ((List.mergeSort_perm _ _).trans hp)
  · intro a b ha hb h1 h2
    simp only [Bool.not_eq_true'] at h1 h2
    exact hT a ((hmem a).1 (List.mem_mergeSort.1 ha)) b hb h2 h1
  · refine List.pairwise_mergeSort ?_ ?_ _
    · intro a b c h1 h2
      simp only [Bool.not_eq_true'] at h1 h2 ⊢
      exact impl_PlayHistory.ntrans _ _ _ h2 h1
    · intro a b
      cases h : impl_PlayHistory.lt b a with
      | false => simp
      | true =>
        have : impl_PlayHistory.lt a b = false := less_asymm _ _ h
        simp [this]
  · refine hu.imp (fun {a b} hab => ?_)
    have : impl_PlayHistory.lt b a = false := less_asymm _ _ hab
    simp [this]
set_option maxHeartbeats 4000000 in
set_option maxRecDepth 100000 in
theorem impl_PlayHistory.ent (b n : Nat) (D : DataW Unit) (st : List impl_PlayHistory.T) (w : World) (hn : n ≤ 1000000) (hm : w.ownsMap Try.prog 9 (plainElem Try.prog 9) b n D) (hR : impl_PlayHistory.Rel D st) :
    Calls Try.prog 39 #[.map (some b)] w fun e w' => ∃ v0_ : Value, e = .returned v0_ ∧ Kd.R k70 70 w' w.heap.size (fun _ => True) v0_ st ∧ Below w.heap.size w w' := by
  have HM := Aside0.mk hm
  have HR := Aside0.mk hR
  have hlt := hm.lt
  clear hm hR
  go_enter Try.func39, Try.ntmps39
  go_wp2_with (first
    | ((with_reducible refine gate_dst (N := 6) rfl ?_); refine Kd.R_lit k70 _ 70 ?hg (N := 6) ?hd (xs := ([] : List impl_PlayHistory.T)) (inner := []) (ok := fun _ => True) (okp := fun _ => True) ?hr ?hp (fun _ hk => hk) trivial (Below.refl _ _) (Nat.le_refl _) (by simp) ?_; (case hd => rfl); (case hg => rfl); (case hr => first | (go_simp; done) | (go_simp; rfl)); (case hp => exact (Reps.none _ _)); intro v1 w1 ho hb hg_ hnew_; have HO := Aside0.mk ho; have HB := Aside0.mk hb; have HM1 := Aside0.mk (HM.out.kept hg_ (by simp)); clear ho hb hg_ hnew_)
    | (at_range; refine wpList_range_own _ rfl _ 66 rfl 9 9 impl_PlayHistory.law Try.underlying66 _ b n D rfl HM1.out ?_; intro w2 hrg2 hg2 hs2)
    | go_in)
  obtain ⟨rho, hrho⟩ : ∃ rho, rho = w1.heap.size := ⟨_, rfl⟩
  have HO2 := Aside0.mk (Kd.R_grown HO.out hg2 (fun _ _ => by simp))
  have HB2 := Aside0.mk (HB.out.grown hg2 HB.out.size (fun j hj => by cases hj))
  have hge := HB.out.size
  rw [← hrho] at hrg2 hge ⊢
  clear hrho HO HB HM HM1 hg2 hs2
  go_frame
  go_loopw [3] (fun v3 wq => ∃ (left : Lit → Bool) (cnt : Nat) (out : List impl_PlayHistory.T), wq.ranges Try.prog 9 (plainElem Try.prog 9) b rho n D left cnt ∧ Aside0 (Kd.R k70 70 wq w.heap.size (fun _ => True) v3 out) ∧ Aside0 (Below w.heap.size w wq) ∧ Aside0 (impl_PlayHistory.Told st out left ∧ out.length + cnt ≤ n))
    (fun _ wq => wq.rangeLeft b rho)
  case atStart => exact ⟨_, _, [], hrg2, HO2, HB2, ⟨impl_PlayHistory.Told.start HR.out, by simpa using impl_PlayHistory.cnt_le hrg2⟩⟩
  case round =>
    clear hrg2 HO2 HB2
    obtain ⟨left, cnt, out, hrg, HO, HB, HT⟩ := hrel
    go_wp2_with (first
      | (at_next; refine impl_PlayHistory.at_nxt _ rfl _ rfl 9 9 impl_PlayHistory.law Try.underlying9 Try.underlying9 b rho n _ _ _ rfl hrg ?_ ?_)
      | go_in)
    · intro _ hl0
      have HE := Aside0.mk (HT.out.1.ends HR.out.up hl0)
      clear hl0
      obtain ⟨Ao, co, eo⟩ := Kd.R_slice HO.out
      subst eo
      have hlen : out.length < 4611686018427387904 := by have := HT.out.2; omega
      have hcall : Aside0 (∀ W : World, Below w.heap.size w W → Kd.R k70 70 W w.heap.size (fun _ => True) (.slice Ao out.length co) out →
          Calls Try.prog 55 #[.slice Ao out.length co, .func (.func 56) #[] #[]] W fun e w' => e = .returned (.tuple #[]) ∧ Kd.R k70 70 w' w.heap.size (fun k_ => (True ∨ W.heap.size ≤ k_)) (.slice Ao out.length co) st ∧ Below w.heap.size w w') := ⟨fun W hBW hOW => by
        have h := Ytopajfpfjfbjcaa.OwnS.calls Try.sortEntry 2 (fun w => by kernel_rfl) (fun w => by kernel_rfl) impl_PlayHistory.enc (fun _ => rfl) (fun x v hv => by
          simp only [impl_PlayHistory.enc, List.mem_cons, List.not_mem_nil, or_false] at hv
          rcases hv with rfl | rfl <;> rfl) impl_PlayHistory.cf impl_PlayHistory.swo 56 (enters_of Try.func56 (by kernel_rfl) rfl) impl_PlayHistory.cmp (d := k70) rfl (fun {_ _ _ _ _} hM => k70_openM hM) (fun w base ok x => k70_mkM w base ok x) 70 (fun _ => True) (.slice Ao out.length co) out w W hBW hOW hlen (by rw [impl_PlayHistory.ltOf_is]; exact HE.out.2)
        rw [impl_PlayHistory.ltOf_is, HE.out.1] at h
        exact h.mono fun e w' hh => ⟨hh.1, hh.2.1, hh.2.2.1⟩⟩
      go_wp2_with (go_at_call 55; (with_reducible refine (hcall.out _ HB.out HO.out).mono ?_); rintro e w4 ⟨rfl, ho, hb⟩; have HO4 := Aside0.mk ho; have HB4 := Aside0.mk hb; clear ho hb)
      go_ret
      exact ⟨_, rfl, Kd.R_mono HO4.out (fun _ _ => trivial), HB4.out⟩
    · intro x c w3 cnt3 hlx hat hrg3 hlt3 hg3 hs3 hen
      have hx0 : impl_PlayHistory.look st x = c := by
        have h_ := hat (.lit (.string []))
        rw [HR.out.at_ x] at h_
        injection h_ with h_
        injection h_ with h_
        rw [impl_PlayHistory.dat, impl_PlayHistory.dat] at h_
        exact impl_PlayHistory.txt h_
      have hmem : (⟨x, c⟩ : impl_PlayHistory.T) ∈ st := by
        rw [← hx0]
        exact impl_PlayHistory.look_mem st x ((HR.out.has_ x).1 (has_true_of_atKey hat))
      have HT3 := Aside0.mk (HT.out.1.step HR.out.up ⟨x, c⟩ hmem hlx)
      have HL := Aside0.mk (show out.length + 1 + cnt3 ≤ n by have := HT.out.2; omega)
      have HN := Aside0.mk hn
      have HO3 := Aside0.mk (impl_PlayHistory.row_iter HO.out hrg hg3)
      have HB3 := Aside0.mk (HB.out.grown hg3 HB.out.size (fun j hj => by cases hj; exact hge))
      clear hx0 hmem hlx hat HT HO HB hs3
      go_wp2_with ((with_reducible refine gate_builtin (b := .append) (xs := #[.tmp 14, .tmp 18]) rfl ?_); (try (refine gate_guard (by rfl) ?_; dsimp only)); at_builtin; refine Kd.R_append k70 (w0 := w) w.heap.size rfl (.tmp 14) (.tmp 18) 35 70 (.agg #[(.string ⟨#[]⟩), (.string ⟨#[]⟩)]) 32 rfl Try.underlying35 info70 rfl (by decide) (by omega) u3 out (⟨x, c⟩ : impl_PlayHistory.T) [.string x, .string c] (fun _ => True) (fun _ => False) rfl rfl ?aP (fun _ hk => hk.elim) ?aF ?aO ?aB ?aS ?aL ?_; (case aP => exact k70_mkM _ _ _ (⟨x, c⟩ : impl_PlayHistory.T)); (case aB => exact HB3.out); (case aF => exact (fun _ _ => trivial)); (case aO => exact HO3.out); (case aS => exact (below_size HB3.out)); (case aL => have := HL.out; have := HN.out; omega); intro v4 w4 ho hb hg hat; have hrg4 := hrg3.kept hg (impl_PlayHistory.map_off HO3.out hrg3.owns) (impl_PlayHistory.iter_off HO3.out hrg3); have HO4 := Aside0.mk ho; have HB4 := Aside0.mk hb; clear ho hb hg hat)
      go_roundw
      case rel => exact ⟨_, cnt3, _, hrg4, HO4, HB4, ⟨HT3.out, by rw [List.length_append]; exact HL.out⟩⟩
      case measure =>
        rw [hrg.left_eq]
        show w4.rangeLeft _ _ < _
        rw [hrg4.left_eq]
        exact hlt3
abbrev impl_PlayHistory.bx (x : impl_PlayHistory.H) : Obj := .cells #[.int .i64 x.f0, .int .i64 x.f1, .string x.f2, .string x.f3] 47
/-! What a right history says of its acts -/
theorem impl_PlayHistory.scan_ops : ∀ (l : List impl_PlayHistory.H) (m : Int → Int), impl_HistoryOK.fin l (impl_HistoryOK.scan l m) = true ∨ (∃ m', impl_HistoryOK.scan l m = some m') → ∀ x ∈ l, impl_HistoryOK.op x = true
  | [], m, _, x, hx => by simp at hx
  | y :: ys, m, h, x, hx => by
    have h1 : ∃ m', impl_HistoryOK.scan (y :: ys) m = some m' := by
      rcases h with h | h
      · cases hs : impl_HistoryOK.scan (y :: ys) m with
        | none =>
          rw [hs] at h
          cases h
        | some m' => exact ⟨m', rfl⟩
      · exact h
    obtain ⟨m', h1⟩ := h1
    unfold impl_HistoryOK.scan at h1
    by_cases hc : (impl_HistoryOK.op y && !impl_HistoryOK.en (m y.f0)) = true
    · rw [if_pos hc] at h1
      rcases List.mem_cons.1 hx with rfl | hx
      · simp only [Bool.and_eq_true] at hc
        exact hc.1
      · exact impl_PlayHistory.scan_ops ys _ (.inr ⟨_, h1⟩) x hx
    · rw [if_neg hc] at h1
      cases h1
theorem impl_PlayHistory.op_sizes (x : impl_PlayHistory.H) (h : impl_HistoryOK.op x = true) : (x.f1 = 1 ∨ x.f1 = 2 → x.f2.size ≤ 80) ∧ (x.f1 = 2 → x.f3.size ≤ 200) := by
  have hs := impl_HistoryOK.op_some x
  rw [h] at hs
  unfold impl_HOp_isOp.f impl_isTx.f impl_isKey.f impl_isDatum.f impl_within.f at hs
  simp only [Option.bind_some] at hs
  refine ⟨fun hc => ?_, fun hc => ?_⟩
  · rcases hc with hc | hc <;> by_cases c0 : x.f0 ≥ 0 <;> by_cases c1 : x.f0 ≤ 5 <;> by_cases c2 : (x.f2.size : Int) ≥ 1 <;> by_cases c3 : (x.f2.size : Int) ≤ 80 <;> first | omega | (exfalso; simp [hc, c0, c1, c2, c3] at hs)
  · by_cases c0 : x.f0 ≥ 0 <;> by_cases c1 : x.f0 ≤ 5 <;> by_cases c2 : (x.f2.size : Int) ≥ 1 <;> by_cases c3 : (x.f2.size : Int) ≤ 80 <;> by_cases c4 : (x.f3.size : Int) ≤ 200 <;> first | omega | (exfalso; simp [hc, c0, c1, c2, c3, c4] at hs)
theorem impl_PlayHistory.sizes (l0 : List impl_PlayHistory.H) (h : impl_historyCode.f l0 = some 0) : l0.length ≤ 60 ∧ ∀ x ∈ l0, (x.f1 = 1 ∨ x.f1 = 2 → x.f2.size ≤ 80) ∧ (x.f1 = 2 → x.f3.size ≤ 200) := by
  unfold impl_historyCode.f impl_HistoryOK.f at h
  by_cases h1 : (l0.length : Int) > 4096
  · rw [if_pos h1] at h
    simp at h
  · rw [if_neg h1] at h
    by_cases h2 : (l0.length : Int) > 60
    · rw [if_pos h2] at h
      simp at h
    · rw [if_neg h2] at h
      refine ⟨by omega, fun x hx => impl_PlayHistory.op_sizes x ?_⟩
      cases hf : impl_HistoryOK.fin l0 (impl_HistoryOK.scan l0 fun _ => 0) with
      | false =>
        rw [hf] at h
        simp at h
      | true => exact impl_PlayHistory.scan_ops l0 _ (.inl hf) x hx
theorem impl_PlayHistory.go_drop (k : Nat) (C : List Int) (l : List impl_PlayHistory.H) (i : Nat) (h : i < l.length) (out : List ByteArray) (st : List impl_PlayHistory.T) (r : List ByteArray × List impl_PlayHistory.T × Int) (hr : impl_PlayHistory.go k C (l.drop i) out st = some r) :
    ∃ b, slices_Contains_int_int.f k C l[i].f0 = some b ∧ ((b = false ∧ impl_PlayHistory.go k C (l.drop (i + 1)) out st = some r) ∨ (b = true ∧ l[i].f1 = 1 ∧ out.length < 8796093022208 ∧ impl_PlayHistory.go k C (l.drop (i + 1)) (out ++ [impl_PlayHistory.look st l[i].f2]) st = some r) ∨ (b = true ∧ l[i].f1 = 2 ∧ impl_PlayHistory.go k C (l.drop (i + 1)) out (impl_PlayHistory.put st l[i].f2 l[i].f3) = some r) ∨ (b = true ∧ l[i].f1 ≠ 1 ∧ l[i].f1 ≠ 2 ∧ impl_PlayHistory.go k C (l.drop (i + 1)) out st = some r)) := by
  rw [List.drop_eq_getElem_cons h] at hr
  unfold impl_PlayHistory.go at hr
  obtain ⟨b, hb, hr⟩ := Option.bind_eq_some_iff.1 hr
  refine ⟨b, hb, ?_⟩
  cases b with
  | false =>
    rw [if_neg (by simp)] at hr
    exact .inl ⟨rfl, hr⟩
  | true =>
    rw [if_pos rfl] at hr
    by_cases h1 : l[i].f1 = 1
    · rw [if_pos h1] at hr
      by_cases h2 : out.length < 8796093022208
      · rw [if_pos h2] at hr
        exact .inr (.inl ⟨rfl, h1, h2, hr⟩)
      · rw [if_neg h2] at hr
        cases hr
    · rw [if_neg h1] at hr
      by_cases h2 : l[i].f1 = 2
      · rw [if_pos h2] at hr
        exact .inr (.inr (.inl ⟨rfl, h2, hr⟩))
      · rw [if_neg h2] at hr
        exact .inr (.inr (.inr ⟨rfl, h1, h2, hr⟩))
set_option maxHeartbeats 8000000 in
set_option maxRecDepth 100000 in
theorem impl_PlayHistory.calls (k : Nat) (A0 : Option Addr) (c0 : Nat) (l0 : List impl_PlayHistory.H) (r1 : List ByteArray) (r2 : List impl_PlayHistory.T) (r3 : Int) (w : World) (hr0 : Kd.C k47 w A0 l0.length l0) (hc0 : l0.length ≤ c0) (h : impl_PlayHistory.f k l0 = some (r1, r2, r3)) :
    Calls Try.prog 15 #[.slice A0 l0.length c0] w fun e w' => ∃ v0_ v1_ : Value, e = .returned (.tuple #[v0_, v1_, .int .i64 r3]) ∧ Kd.R Kd.string 9 w' w.heap.size (fun _ => True) v0_ r1 ∧ Kd.R k70 70 w' w.heap.size (fun _ => True) v1_ r2 ∧ Below w.heap.size w w' := by
  have HR := Aside0.mk hr0
  have HC0 := Aside0.mk hc0
  have hm : l0.length ≤ 9223372036854775807 := hr0.2.1
  clear hr0 hc0
  have hu := Try.underlying47
  have hmm := @run_makeMap Try.prog
  unfold impl_PlayHistory.f at h
  obtain ⟨t, ht, h⟩ := Option.bind_eq_some_iff.1 h
  have HCODE := Aside0.mk ht
  by_cases h0 : t = 0
  rotate_left
  · rw [if_neg h0] at h
    simp only [Option.some.injEq, Prod.mk.injEq] at h
    obtain ⟨rfl, rfl, rfl⟩ := h
    have c1 : (t != 0) = true := bne_iff_ne.mpr h0
    have c2 : (t == 0) = false := beq_eq_false_iff_ne.mpr h0
    clear h0
    go_enter Try.func15, Try.ntmps15
    go_wp2_with (go_at_call 26; (with_reducible refine (impl_historyCode.calls A0 c0 l0 t _ HR.out HC0.out HCODE.out).mono ?_); rintro e w1 ⟨rfl, hb⟩; have HB := Aside0.mk hb; clear hb)
    go_ret3
    exact ⟨_, _, rfl, Kd.R_nil _ _ _ _ _, Kd.R_nil _ _ _ _ _, HB.out⟩
  · subst h0
    rw [if_pos rfl] at h
    obtain ⟨C, hC, h⟩ := Option.bind_eq_some_iff.1 h
    have HCOM := Aside0.mk hC
    have HGO := Aside0.mk h
    obtain ⟨hlen, hsz⟩ := impl_PlayHistory.sizes l0 ht
    have HSZ := Aside0.mk hsz
    clear ht h hC hsz
    go_enter Try.func15, Try.ntmps15
    go_wp2_with (first
      | (go_at_call 26; (with_reducible refine (impl_historyCode.calls A0 c0 l0 0 _ HR.out HC0.out HCODE.out).mono ?_); rintro e w1 ⟨rfl, hb⟩; have HB1 := Aside0.mk hb; clear hb)
      | (go_at_call 27; (with_reducible refine (impl_committed.calls k A0 c0 l0 C _ (Kd.C_below HR.out HB1.out) HC0.out HCOM.out).mono ?_); rintro e w2 ⟨vC, rfl, hoC, hb⟩; have HB2 := Aside0.mk (below_then HB1.out HB1.out.size hb); obtain ⟨AC, cC, rfl⟩ := Kd.R_slice hoC; have HOC := Aside0.mk (Kd.R_lower hoC HB1.out.size); clear hb hoC)
      | ((with_reducible refine gate_dst (N := 19) rfl ?_); refine Kd.R_lit Kd.string _ 9 ?hg (N := 19) ?hd (xs := ([] : List ByteArray)) (inner := []) (ok := fun _ => True) (okp := fun _ => True) ?hr ?hp (fun _ hk => hk) trivial (Below.refl _ _) (Nat.le_refl _) (by simp) ?_; (case hd => rfl); (case hg => rfl); (case hr => first | (go_simp; done) | (go_simp; rfl)); (case hp => exact (Reps.none _ _)); intro v3 w3 ho hb hg_ hnew_; have HO3 := Aside0.mk (Kd.R_lower ho (below_alloc HB2.out (.map #[] 0)).size); have HB3 := Aside0.mk (below_then (below_alloc HB2.out (.map #[] 0)) (below_alloc HB2.out (.map #[] 0)).size hb); have HM3 := Aside0.mk ((World.ownsMap_made (H := Unit) w2 Try.prog 9 (plainElem Try.prog 9)).kept hg_ (by simp)); have HC3 := Aside0.mk (Kd.R_grown (Kd.R_alloc HOC.out (.map #[] 0)) hg_ (fun _ _ => by simp)); clear ho hb hg_ hnew_))
    have hge := HB2.out.size
    obtain ⟨b, hbb⟩ : ∃ b, b = w2.heap.size := ⟨_, rfl⟩
    rw [← hbb] at hge HM3
    try rw [← hbb]
    clear hbb HB1 HB2 HOC HCODE HCOM
    go_loopg [8, 22] l0.length (fun gg s8 s22 wr => ∃ (kk : Nat) (D : DataW Unit) (st : List impl_PlayHistory.T) (out : List ByteArray), kk ≤ l0.length ∧ l0.length - kk ≤ gg ∧ s22 = .int .i64 kk ∧ Aside0 (impl_PlayHistory.go k C (l0.drop kk) out st = some (r1, r2, r3)) ∧ Aside0 (impl_PlayHistory.Rel D st) ∧ Aside0 (wr.ownsMap Try.prog 9 (plainElem Try.prog 9) b kk D) ∧ Aside0 (Kd.R Kd.string 9 wr w.heap.size (fun _ => True) s8 out) ∧ Aside0 (Kd.R (Kd.int .i64) 3 wr w.heap.size (fun _ => True) (.slice AC C.length cC) C) ∧ Aside0 (Below w.heap.size w wr))
    case atStart => exact ⟨0, _, [], [], Nat.zero_le _, by omega, rfl, by rw [List.drop_zero]; exact HGO, ⟨impl_PlayHistory.Rel.start⟩, HM3, HO3, HC3, HB3⟩
    case round =>
      clear HGO HM3 HO3 HC3 HB3
      obtain ⟨kk, D, st, out, hkk, hg, rfl, HG, HD, HM, HO, HC, HB⟩ := hrel
      by_cases hlt : kk < l0.length
      · have hltz : (kk : Int) < (l0.length : Int) := by omega
        have hlz : decide ((kk : Int) < (l0.length : Int)) = true := decide_eq_true hltz
        obtain ⟨ad, rfl, hx0, hx1, hx2, hx3⟩ := at_T47 (Kd.C_below HR.out HB.out) (kk : Int) (by omega) hltz
        rw [Int.toNat_natCast] at hx0 hx1 hx2 hx3
        obtain ⟨b0, hcb, hcase⟩ := impl_PlayHistory.go_drop k C l0 kk hlt out st _ HG.out
        obtain ⟨x, hx⟩ : ∃ x, x = rd_T47 l0 (kk : Int) := ⟨_, rfl⟩
        have hxl : x = l0[kk] := by rw [hx]; simp [rd_T47, List.getD_eq_getElem?_getD, List.getElem?_eq_getElem hlt]
        rw [← hx] at hx0 hx1 hx2 hx3
        rw [← hxl] at hcb hcase
        have hsx := HSZ.out x (by rw [hxl]; exact List.getElem_mem hlt)
        have HSX := Aside0.mk hsx
        clear hx hxl hsx
        rcases hcase with ⟨rfl, hn⟩ | ⟨rfl, h1, h2, hn⟩ | ⟨rfl, h1, hn⟩ | ⟨rfl, h1, h2, hn⟩
        ·
          have HCB := Aside0.mk hcb
          have HN := Aside0.mk hn
          clear hcb hn
          go_wp2_with (go_at_call 29; (with_reducible refine (slices_Contains_int_int.calls k AC cC C x.f0 false _ (Kd.C_alloc (Kd.R_reads' HC.out).2.2 _) (Kd.R_reads' HC.out).2.1 HCB.out).mono ?_); rintro e w5 ⟨rfl, ⟨nd, rfl⟩⟩; have HM5 : Aside0 (World.ownsMap ((wr.alloc (impl_PlayHistory.bx x)).drewN nd) Try.prog 9 (plainElem Try.prog 9) b kk D) := ⟨HM.out.alloc (impl_PlayHistory.bx x)⟩; have HO5 : Aside0 (Kd.R Kd.string 9 ((wr.alloc (impl_PlayHistory.bx x)).drewN nd) w.heap.size (fun _ => True) u8 out) := ⟨Kd.R_drewN (Kd.R_alloc HO.out (impl_PlayHistory.bx x)) nd⟩; have HC5 : Aside0 (Kd.R (Kd.int .i64) 3 ((wr.alloc (impl_PlayHistory.bx x)).drewN nd) w.heap.size (fun _ => True) (.slice AC C.length cC) C) := ⟨Kd.R_drewN (Kd.R_alloc HC.out (impl_PlayHistory.bx x)) nd⟩; have HB5 : Aside0 (Below w.heap.size w ((wr.alloc (impl_PlayHistory.bx x)).drewN nd)) := ⟨pw_below_drewN (below_alloc HB.out (impl_PlayHistory.bx x)) nd⟩)
          go_roundg (l0.length - (kk + 1))
          case measure => omega
          case rel => exact ⟨kk + 1, D, st, out, by omega, by omega, by go_num, HN, HD, ⟨HM5.out.mono (by omega)⟩, HO5, HC5, HB5⟩
        ·
          have HCB := Aside0.mk hcb
          have HN := Aside0.mk hn
          clear hcb hn
          have c1 : (x.f1 == 1) = true := beq_iff_eq.mpr h1
          have c1' : (x.f1 != 1) = false := bne_eq_false_iff_eq.mpr h1
          have HKS := Aside0.mk (HSX.out.1 (.inl h1))
          have HLN := Aside0.mk h2
          clear h1 h2
          go_wp2_with (first
            | (go_at_call 29; (with_reducible refine (slices_Contains_int_int.calls k AC cC C x.f0 true _ (Kd.C_alloc (Kd.R_reads' HC.out).2.2 _) (Kd.R_reads' HC.out).2.1 HCB.out).mono ?_); rintro e w5 ⟨rfl, ⟨nd, rfl⟩⟩; have HM5 : Aside0 (World.ownsMap ((wr.alloc (impl_PlayHistory.bx x)).drewN nd) Try.prog 9 (plainElem Try.prog 9) b kk D) := ⟨HM.out.alloc (impl_PlayHistory.bx x)⟩; have HO5 : Aside0 (Kd.R Kd.string 9 ((wr.alloc (impl_PlayHistory.bx x)).drewN nd) w.heap.size (fun _ => True) u8 out) := ⟨Kd.R_drewN (Kd.R_alloc HO.out (impl_PlayHistory.bx x)) nd⟩; have HC5 : Aside0 (Kd.R (Kd.int .i64) 3 ((wr.alloc (impl_PlayHistory.bx x)).drewN nd) w.heap.size (fun _ => True) (.slice AC C.length cC) C) := ⟨Kd.R_drewN (Kd.R_alloc HC.out (impl_PlayHistory.bx x)) nd⟩; have HB5 : Aside0 (Below w.heap.size w ((wr.alloc (impl_PlayHistory.bx x)).drewN nd)) := ⟨pw_below_drewN (below_alloc HB.out (impl_PlayHistory.bx x)) nd⟩)
            | (at_lookup; (try (refine gate_guard (by rfl) ?_; dsimp only)); refine impl_PlayHistory.at_look _ rfl _ _ 66 rfl 9 9 impl_PlayHistory.law Try.underlying66 Try.underlying9 (impl_PlayHistory.zero _) b kk _ rfl HM5.out _ _ rfl (WideMaps.keyOf_string_mk Try.underlying9 (by have := HKS.out; unfold maxLen; omega)) ?_; intro c hat; obtain rfl : c = impl_PlayHistory.look st x.f2 := (by have h_ := hat.symm.trans (HD.out.at_ x.f2); injection h_ with h_; injection h_ with h_; exact WideShapes.bytes_inj h_); clear hat)
            | ((with_reducible refine gate_builtin (b := .append) (xs := #[.tmp 36, .tmp 41]) rfl ?_); (try (refine gate_guard (by rfl) ?_; dsimp only)); at_builtin; refine Kd.R_append Kd.string (w0 := w) w.heap.size rfl (.tmp 36) (.tmp 41) 34 9 (.string ⟨#[]⟩) 16 rfl Try.underlying34 info9 rfl (by decide) (by omega) u8 out (impl_PlayHistory.look st x.f2) [.string (impl_PlayHistory.look st x.f2)] (fun _ => True) (fun _ => False) rfl (by first | (go_simp; done) | (go_simp; rfl)) ?aP (fun _ hk => hk.elim) ?aF ?aO ?aB ?aS ?aL ?_; (case aP => exact rfl); (case aB => exact HB5.out); (case aF => exact (fun _ _ => trivial)); (case aO => exact HO5.out); (case aS => exact (below_size HB5.out)); (case aL => have := HLN.out; omega); intro v6 w6 ho hb hg hat; have HM6 := Aside0.mk (HM5.out.kept hg (impl_PlayHistory.map_off HO5.out HM5.out)); have HC6 := Aside0.mk (Kd.R_over' HC5.out (Kd.R_typed HO5.out) (by decide) hg); have HO6 := Aside0.mk ho; have HB6 := Aside0.mk hb; clear ho hb hg hat))
          go_roundg (l0.length - (kk + 1))
          case measure => omega
          case rel => exact ⟨kk + 1, D, st, _, by omega, by omega, by go_num, HN, HD, ⟨HM6.out.mono (by omega)⟩, HO6, HC6, HB6⟩
        ·
          have HCB := Aside0.mk hcb
          have HN := Aside0.mk hn
          clear hcb hn
          have c1 : (x.f1 == 1) = false := beq_eq_false_iff_ne.mpr (by omega)
          have c1' : (x.f1 != 1) = true := bne_iff_ne.mpr (by omega)
          have c2 : (x.f1 == 2) = true := beq_iff_eq.mpr h1
          have c2' : (x.f1 != 2) = false := bne_eq_false_iff_eq.mpr h1
          have HKS := Aside0.mk (HSX.out.1 (.inr h1))
          have HVS := Aside0.mk (HSX.out.2 h1)
          clear h1
          go_wp2_with (first
            | (go_at_call 29; (with_reducible refine (slices_Contains_int_int.calls k AC cC C x.f0 true _ (Kd.C_alloc (Kd.R_reads' HC.out).2.2 _) (Kd.R_reads' HC.out).2.1 HCB.out).mono ?_); rintro e w5 ⟨rfl, ⟨nd, rfl⟩⟩; have HM5 : Aside0 (World.ownsMap ((wr.alloc (impl_PlayHistory.bx x)).drewN nd) Try.prog 9 (plainElem Try.prog 9) b kk D) := ⟨HM.out.alloc (impl_PlayHistory.bx x)⟩; have HO5 : Aside0 (Kd.R Kd.string 9 ((wr.alloc (impl_PlayHistory.bx x)).drewN nd) w.heap.size (fun _ => True) u8 out) := ⟨Kd.R_drewN (Kd.R_alloc HO.out (impl_PlayHistory.bx x)) nd⟩; have HC5 : Aside0 (Kd.R (Kd.int .i64) 3 ((wr.alloc (impl_PlayHistory.bx x)).drewN nd) w.heap.size (fun _ => True) (.slice AC C.length cC) C) := ⟨Kd.R_drewN (Kd.R_alloc HC.out (impl_PlayHistory.bx x)) nd⟩; have HB5 : Aside0 (Below w.heap.size w ((wr.alloc (impl_PlayHistory.bx x)).drewN nd)) := ⟨pw_below_drewN (below_alloc HB.out (impl_PlayHistory.bx x)) nd⟩)
            | (at_mapUpdate; (try (refine gate_guard (by rfl) ?_; dsimp only)); refine wpList_mapUpdate_own _ rfl _ _ _ 66 rfl 9 9 impl_PlayHistory.law Try.underlying66 _ b kk _ rfl HM5.out (by unfold maxLen; omega) _ _ _ rfl rfl (WideMaps.keyOf_string_mk Try.underlying9 (by have := HKS.out; unfold maxLen; omega)) _ [] (plainElem_string Try.underlying9 (by have := HVS.out; unfold maxLen; omega)) ?_; intro w6 hown6 hgrow6; have HO6 := Aside0.mk (impl_PlayHistory.row_map HO5.out HM5.out hgrow6); have HC6 := Aside0.mk (impl_PlayHistory.row_map HC5.out HM5.out hgrow6); have HB6 := Aside0.mk (HB5.out.grown hgrow6 HB5.out.size (fun j hj => by cases hj; exact hge)); have HM6 := Aside0.mk hown6; clear hown6 hgrow6))
          go_roundg (l0.length - (kk + 1))
          case measure => omega
          case rel => exact ⟨kk + 1, _, _, out, by omega, by omega, by go_num, HN, ⟨HD.out.step x.f2 x.f3⟩, HM6, HO6, HC6, HB6⟩
        ·
          have HCB := Aside0.mk hcb
          have HN := Aside0.mk hn
          clear hcb hn
          have c1 : (x.f1 == 1) = false := beq_eq_false_iff_ne.mpr h1
          have c1' : (x.f1 != 1) = true := bne_iff_ne.mpr h1
          have c2 : (x.f1 == 2) = false := beq_eq_false_iff_ne.mpr h2
          have c2' : (x.f1 != 2) = true := bne_iff_ne.mpr h2
          clear h1 h2
          go_wp2_with (go_at_call 29; (with_reducible refine (slices_Contains_int_int.calls k AC cC C x.f0 true _ (Kd.C_alloc (Kd.R_reads' HC.out).2.2 _) (Kd.R_reads' HC.out).2.1 HCB.out).mono ?_); rintro e w5 ⟨rfl, ⟨nd, rfl⟩⟩; have HM5 : Aside0 (World.ownsMap ((wr.alloc (impl_PlayHistory.bx x)).drewN nd) Try.prog 9 (plainElem Try.prog 9) b kk D) := ⟨HM.out.alloc (impl_PlayHistory.bx x)⟩; have HO5 : Aside0 (Kd.R Kd.string 9 ((wr.alloc (impl_PlayHistory.bx x)).drewN nd) w.heap.size (fun _ => True) u8 out) := ⟨Kd.R_drewN (Kd.R_alloc HO.out (impl_PlayHistory.bx x)) nd⟩; have HC5 : Aside0 (Kd.R (Kd.int .i64) 3 ((wr.alloc (impl_PlayHistory.bx x)).drewN nd) w.heap.size (fun _ => True) (.slice AC C.length cC) C) := ⟨Kd.R_drewN (Kd.R_alloc HC.out (impl_PlayHistory.bx x)) nd⟩; have HB5 : Aside0 (Below w.heap.size w ((wr.alloc (impl_PlayHistory.bx x)).drewN nd)) := ⟨pw_below_drewN (below_alloc HB.out (impl_PlayHistory.bx x)) nd⟩)
          go_roundg (l0.length - (kk + 1))
          case measure => omega
          case rel => exact ⟨kk + 1, D, st, out, by omega, by omega, by go_num, HN, HD, ⟨HM5.out.mono (by omega)⟩, HO5, HC5, HB5⟩
      · have hz : kk = l0.length := by omega
        subst hz
        have hend := HG.out
        rw [List.drop_length] at hend
        have hend2 : some (out, st, (0 : Int)) = some (r1, r2, r3) := hend
        simp only [Option.some.injEq, Prod.mk.injEq] at hend2
        obtain ⟨rfl, rfl, rfl⟩ := hend2
        clear hend HG
        go_wp2_with (go_at_call 39; (with_reducible refine (impl_PlayHistory.ent b l0.length D st _ (by omega) HM.out HD.out).mono ?_); rintro e w6 ⟨v6, rfl, ho, hb⟩; have HE6 := Aside0.mk (Kd.R_lower ho HB.out.size); have HO6 := Aside0.mk (Kd.R_below HO.out hb); have HB6 := Aside0.mk (below_then HB.out HB.out.size hb); clear ho hb)
        go_ret3
        exact ⟨_, _, rfl, HO6.out, HE6.out, HB6.out⟩

end Go.Proofs.Ytopajfpfjfbjcaa.XP
