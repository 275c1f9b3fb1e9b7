/- '[]byte("..")' of a constant, onto which one appends: the literal's row bears a mark, it is full, so append makes a row of its own. -/
import Derived.Test.YtagdjkdnblpghaaWMore
import Derived.Lib.SlBytesConst
import Derived.ArgAppend
namespace Go.Proofs.Ytagdjkdnblpghaa.Mark
open Go Go.RowKit Go.Proofs.YtagdjkdnblpghaaW.PrintWords Go.Proofs.YtagdjkdnblpghaaW.PrintLast Go.Proofs.YtagdjkdnblpghaaW.PrintMore
variable {P : Program} {ops : Array Oper} {rest : List Oper} {o o2 : Oper} {a : Act} {Q : Exit → Act → World → Prop}

theorem C_of_blk {w : World} {g : Nat} {t : TypeId} {fr : Nat × Nat} (xs : List Int) (hb : w.heap[g]? = some (.cells (xs.map (Value.int .u8)).toArray t fr)) (hm : xs.length ≤ 9223372036854775807) :
    (Kd.int .u8).C w (some ⟨g, 0, none⟩) xs.length xs := by
  refine ⟨rfl, hm, fun _ => ⟨_, rfl, fun j p hj => ⟨[.int .u8 p], rfl, rfl, fun i u hu => ?_⟩⟩⟩
  obtain ⟨rfl, rfl⟩ : i = 0 ∧ u = .int .u8 p := by
    cases i with
    | zero => simpa using hu.symm
    | succ i => simp at hu
  show w.cell? ((⟨g, 0, none⟩ : Addr).add (j * 1 + 0)) = _
  rw [add_plain, cell_of_row w g _ _ t fr hb]
  simp [hj]

/-- The literal and its mark, two operations at once. -/
theorem lit_marked {w0 W : World} (base e t : Nat) (hgd : o.guard = none) (hgd2 : o2.guard = none) {N : Tmp} (hd : o.dst = some N) (xs : List Int)
    (hrun : (execOp a.eval o).run P W = .ok (.value (.slice (some ⟨W.heap.size, 0, none⟩) xs.length xs.length)) (W.alloc (.cells (xs.map (Value.int .u8)).toArray e)))
    (ho2 : o2.op = .convert t t (.tmp N)) (ht : P.underlying t = some (.slice e)) (he : P.underlying e = some (.int .u8)) (hN : N < a.tmps.size)
    (HB : Below base w0 W) (hbase : base ≤ W.heap.size) (hm : xs.length ≤ 9223372036854775807)
    (h : ∀ g w1, W.heap.size ≤ g → (Kd.int .u8).C w1 (some ⟨g, 0, none⟩) xs.length xs → Below base w0 w1 → Below W.heap.size W w1 → wpList P ops Q rest ((a.put o.dst (.slice (some ⟨g, 0, none⟩) xs.length xs.length)).put o2.dst (.slice (some ⟨g, 0, none⟩) xs.length xs.length)) w1) :
    wpList P ops Q (o :: o2 :: rest) a W := by
  refine Kd.event_run hgd hrun ?_
  have hev : (a.put o.dst (.slice (some ⟨W.heap.size, 0, none⟩) xs.length xs.length)).eval (.tmp N) = .slice (some ⟨W.heap.size, 0, none⟩) xs.length xs.length := by
    rw [hd]
    simp [Act.put, Act.eval, hN]
  have hc := Lib.run_convert_bytes_const (P := P) W t e (xs.map (Value.int .u8)).toArray xs.length xs.length ht he
  have hrun2 : (execOp (a.put o.dst (.slice (some ⟨W.heap.size, 0, none⟩) xs.length xs.length)).eval o2).run P (W.alloc (.cells (xs.map (Value.int .u8)).toArray e)) = .ok (.value (.slice (some ⟨W.heap.size, 0, none⟩) xs.length xs.length)) (W.alloc (.cells (xs.map (Value.int .u8)).toArray e ((xs.map (Value.int .u8)).toArray.size, (xs.map (Value.int .u8)).toArray.size + 1))) := by
    unfold execOp
    simp only [ho2, hev, Sem.run_bind, hc, Sem.run_pure, Result.andThen_ok]
  refine Kd.event_run hgd2 hrun2 ?_
  exact h _ _ (Nat.le_refl _) (C_of_blk xs (blk_new W _) hm) (HB.alloc hbase _) (below_alloc (Below.refl _ _) _)

/-- append(v, ys...), v full: a new row. -/
theorem append_full {w0 W : World} (base : Nat) (hgd : o.guard = none) (s x : Operand) (t e : TypeId) (z : Value)
    (ho : o.op = .call { callee := .builtin .append, args := #[s, x], argTypes := #[t, t] })
    (ht : P.underlying t = some (.slice e)) (hinfo : (P.info? e).map (fun i => (i.zero, i.size, i.bytes)) = some (some z, 1, 1)) (hz : z.cells.size = 1)
    (xs ys : List Int) (g : Nat) (A : Option Addr) (m c : Nat) (hs : a.eval s = .slice (some ⟨g, 0, none⟩) xs.length xs.length) (hx : a.eval x = .slice A m c)
    (HO : (Kd.int .u8).C W (some ⟨g, 0, none⟩) xs.length xs) (HR : (Kd.int .u8).C W A m ys) (hpos : 0 < m) (_hxp : 0 < xs.length)
    (HB : Below base w0 W) (hbase : base ≤ W.heap.size) (hl : (xs.length + m) * 1 ≤ 140737488355328)
    (h : ∀ v1 w1, (Kd.int .u8).R e w1 W.heap.size (fun _ => True) v1 (xs ++ ys) → Below base w0 w1 → W.grownBy w1 none → (∃ b, v1.ownBlock = some b ∧ W.heap.size ≤ b) → wpList P ops Q rest (a.put o.dst v1) w1) :
    wpList P ops Q (o :: rest) a W := by
  obtain ⟨i0, hi, hzz⟩ := Option.map_eq_some_iff.1 hinfo
  simp only [Prod.mk.injEq] at hzz
  obtain ⟨hz0, hz1, hz2⟩ := hzz
  have hm : ys.length = m := HR.1
  obtain ⟨ad, rfl, _⟩ := HR.2.2 hpos
  obtain ⟨news, hnr, hnc⟩ := ReadsRow.inner_ HR
  obtain ⟨olds, hor, hoc⟩ := ReadsRow.inner_ HO
  have one : ∀ {zs : List Int} {cs : List Value}, Reps ((Kd.int .u8).K W) (Kd.int .u8).sz zs cs → cs = zs.map (Value.int .u8) := by
    intro zs cs hr
    apply List.ext_getElem?
    intro j
    have hlen : cs.length = zs.length := by
      have := hr.1
      rw [this]
      exact Nat.mul_one _
    rcases Nat.lt_or_ge j zs.length with hj | hj
    · have h2 := hr.2 j _ (List.getElem?_eq_getElem hj)
      have h3 : (cs.drop (j * 1)).take 1 = [.int .u8 zs[j]] := h2
      rw [Nat.mul_one] at h3
      have h4 : cs[j]? = some (.int .u8 zs[j]) := by
        have := congrArg (fun l => l[0]?) h3
        simpa [List.getElem?_take, List.getElem?_drop] using this
      rw [h4]
      simp [List.getElem?_eq_getElem hj]
    · rw [List.getElem?_eq_none (by omega), List.getElem?_eq_none (by simpa using hj)]
  obtain rfl := one hnr
  obtain rfl := one hor
  obtain ⟨v', w', hrun, r1, r2⟩ := run_append_arg_grows (P := P) W t o.type e i0 z 1 1 ht hi hz0 hz1 hz2 hz (by decide) ⟨g, 0, none⟩ xs.length xs.length (xs.map (Value.int .u8)) (by simp) hoc ad m c (ys.map (Value.int .u8)) (by simp [hm]) hnc (by omega) (by simp only [maxLen]; omega) hl
  refine wpList_plain hgd fun K hK => ?_
  unfold Oper.wp
  simp [execOp, ho, resolve, invoke, builtin, hs, hx, hrun, Result.andThen]
  have hat : ∃ b, v'.ownBlock = some b ∧ W.heap.size ≤ b := by
    rcases r1.2 with ⟨_, h0⟩ | ⟨b, cap, cur, rfl, hb, _⟩
    · omega
    · exact ⟨b, by simp [Value.ownBlock], hb⟩
  refine hK _ _ (h v' w' (Kd.R_of_own ?_ (fun _ _ => trivial)) (HB.grown r2 hbase (fun k hk => by cases hk)) r2 hat)
  rw [List.length_append, hm]
  have : encs (Value.int .u8) (xs ++ ys) = xs.map (Value.int .u8) ++ ys.map (Value.int .u8) := by simp [encs]
  rw [this]
  exact r1
end Go.Proofs.Ytagdjkdnblpghaa.Mark
