-- Written for this claim: a contract of one function, proved by hand; the places of its template filled by a program.
import Derived.Test.YtcefdpjlpjgaiaaXK0
import Derived.Lib.SliceRun
namespace Go.Proofs.Ytcefdpjlpjgaiaa.XK
open Go Go.RowKit Go.Proofs.YtcefdpjlpjgaiaaW.PrintWords Go.Proofs.YtcefdpjlpjgaiaaW.PrintLast Go.Proofs.YtcefdpjlpjgaiaaW.PrintMore
set_option linter.unusedVariables false
set_option linter.unusedSimpArgs false
/-! The same forest once more, in rows of its own. -/
def spec_l05Own.f (k : Nat) (xs : List S58) : Option (List S58) := if xs.length < 1759218604441 ∧ ∀ x ∈ xs, x.f1.length < 8796093022208 ∧ x.f2.length < 8796093022208 ∧ x.f3.length < 8796093022208 then some xs else none
theorem spec_l05Own.mono : ∀ xs k, LeO (spec_l05Own.f k xs) (spec_l05Own.f (k + 1) xs) := fun _ _ => LeO.refl _
theorem spec_l05Own.empty {α : Type} (d : Kd α) (e : Nat) (W : World) (base g : Nat) (ok : Nat → Prop) (hb : W.heap[g]? = some (.cells #[] e (0, 0))) (hg : base ≤ g) (hok : ok g) : d.R e W base ok (.slice (some ⟨g, 0, none⟩) 0 0) [] := by
  refine ⟨fun k hk => ?_, [], ?_, Reps.none _ _⟩
  · have : g = k := by simpa [Value.ownBlock] using hk
    exact this ▸ hok
  · exact ⟨by simp, .inr ⟨g, 0, #[], rfl, hg, hb, Nat.le_refl _, by unfold maxLen; omega, by simp, by simp⟩⟩
theorem spec_l05Own.wr2 (i n : Nat) (h0 : i < n) (h1 : n < 1759218604441) : wrap64 ((i : Int) + 1) = ((i + 1 : Nat) : Int) := by unfold wrap64; omega
structure spec_l05Own.Ow (w : World) (A0 : Option Addr) (c0 n0 gb1 gb2 gb3 : Nat) (W : World) (v : Value) (ns : List S58) : Prop where
  b1 : W.heap[gb1]? = some (.cells #[.slice A0 n0 c0] 31 (0, 0))
  b2 : W.heap[gb2]? = some (.cells #[.slice none 0 0] 31 (0, 0))
  b3 : W.heap[gb3]? = some (.cells #[v] 31 (0, 0))
  ho : Kd.S k58 58 W w.heap.size (fun _ => True) v ns
  hb : Below w.heap.size w W
  g2 : w.heap.size ≤ gb2
  g3 : w.heap.size ≤ gb3
  n1 : gb1 ≠ gb3
  n2 : gb2 ≠ gb3
section
variable {w : World} {A0 : Option Addr} {c0 n0 gb1 gb2 gb3 : Nat} {W W' : World} {v v' : Value} {ns ns' : List S58}
theorem spec_l05Own.Ow.below (O : spec_l05Own.Ow w A0 c0 n0 gb1 gb2 gb3 W v ns) (h : Below W.heap.size W W') : spec_l05Own.Ow w A0 c0 n0 gb1 gb2 gb3 W' v ns :=
  ⟨blk_below O.b1 h, blk_below O.b2 h, blk_below O.b3 h, Kd.S_below O.ho h, below_step O.hb h, O.g2, O.g3, O.n1, O.n2⟩
theorem spec_l05Own.Ow.more (O : spec_l05Own.Ow w A0 c0 n0 gb1 gb2 gb3 W v ns) (hg : W.grownBy W' v.ownBlock) (hB : Below w.heap.size w W') (hs : Kd.S k58 58 W' w.heap.size (fun _ => True) v' ns') : spec_l05Own.Ow w A0 c0 n0 gb1 gb2 gb3 (W'.setCell ⟨gb3, 0, none⟩ v') v' ns' := by
  have h1 := blk_grown O.b1 hg (Kd.S_ne O.ho O.b1 (by decide))
  have h2 := blk_grown O.b2 hg (Kd.S_ne O.ho O.b2 (by decide))
  have h3 := blk_grown O.b3 hg (Kd.S_ne O.ho O.b3 (by decide))
  exact ⟨blk_far h1 O.n1 _, blk_far h2 O.n2 _, blk_put h3 0 _ rfl, Kd.S_set hs h3 (by decide) 0 _, hB.setCell (p := ⟨gb3, 0, none⟩) O.g3 _, O.g2, O.g3, O.n1, O.n2⟩
theorem spec_l05Own.Ow.start {w2 : World} (D : Below w.heap.size w w2) (b1 : w2.heap[gb1]? = some (.cells #[.slice A0 n0 c0] 31 (0, 0))) (b2 : w2.heap[gb2]? = some (.cells #[.slice none 0 0] 31 (0, 0))) (h2 : w.heap.size ≤ gb2) :
    spec_l05Own.Ow w A0 c0 n0 gb1 gb2 (w2.heap.size + 1) ((w2.alloc (.cells #[] 58)).alloc (.cells #[.slice (some ⟨w2.heap.size, 0, none⟩) 0 0] 31)) (.slice (some ⟨w2.heap.size, 0, none⟩) 0 0) [] := by
  have h0 := blk_new w2 (.cells #[] 58)
  have h1 := blk_new (w2.alloc (.cells #[] 58)) (.cells #[.slice (some ⟨w2.heap.size, 0, none⟩) 0 0] 31)
  rw [World.size_alloc] at h1
  have hs := D.size
  have l1 := blk_lt b1
  have l2 := blk_lt b2
  exact ⟨blk_alloc (blk_alloc b1 _) _, blk_alloc (blk_alloc b2 _) _, h1, Kd.S_bare (spec_l05Own.empty _ 58 _ _ _ _ (blk_alloc h0 _) (by omega) trivial), below_alloc (below_alloc D _) _, h2, by omega, by omega, by omega⟩
end
/-- A node in the making: its box, its rows so far. -/
structure spec_l05Own.Nd (wo : World) (gb : Nat) (cs : Array Value) (W : World) : Prop where
  b : W.heap[gb]? = some (.cells cs 58 (0, 0))
  g : wo.heap.size ≤ gb
  d : Below wo.heap.size wo W
theorem spec_l05Own.Nd.below {wo : World} {gb : Nat} {cs : Array Value} {W W' : World} (N : spec_l05Own.Nd wo gb cs W) (h : Below W.heap.size W W') : spec_l05Own.Nd wo gb cs W' := ⟨blk_below N.b h, N.g, below_then N.d N.d.size h⟩
theorem spec_l05Own.Nd.put {wo : World} {gb : Nat} {cs : Array Value} {W : World} (N : spec_l05Own.Nd wo gb cs W) (j : Nat) (v : Value) : spec_l05Own.Nd wo gb (cs.setIfInBounds j v) (W.setCell ⟨gb, j, none⟩ v) := ⟨blk_put N.b j v rfl, N.g, N.d.setCell (p := ⟨gb, j, none⟩) N.g v⟩
theorem spec_l05Own.cap80 (l : List S58) (i : Nat) (h : i < l.length) (h1 : l.length < 1759218604441) : Aside0 (((l.take i).length + 1) * 80 ≤ 140737488355328) := ⟨by rw [List.length_take]; omega⟩
theorem spec_l05Own.meas {n i g : Nat} (h : n ≤ i + g) (h0 : i < n) : g - 1 < g := by omega
theorem spec_l05Own.next {n i g : Nat} (h : i ≤ n ∧ n ≤ i + g) (h0 : i < n) : Aside0 (i + 1 ≤ n ∧ n ≤ i + 1 + (g - 1)) := ⟨by omega⟩
theorem spec_l05Own.cap16 (n : Nat) (h : n < 8796093022208) : (0 + n) * 16 ≤ 140737488355328 := by omega
theorem spec_l05Own.cap8 (n : Nat) (h : n < 8796093022208) : (0 + n) * 8 ≤ 140737488355328 := by omega
set_option maxHeartbeats 4000000 in
theorem spec_l05Own.calls (k : Nat) (A0_0 : Option Addr) (c0_0 : Nat) (l0_0 : List (S58)) (r : List (S58)) (w : World) (hr0_0 : Kd.C k58 w A0_0 l0_0.length l0_0) (hc0_0 : l0_0.length ≤ c0_0) (h : spec_l05Own.f k l0_0 = some r) :
    Calls Try.prog 27 #[.agg #[.slice A0_0 l0_0.length c0_0]] w fun e w' => ∃ v0_ : Value, e = .returned (.agg #[v0_]) ∧ Kd.S k58 58 w' w.heap.size (fun _ => True) v0_ r ∧ Below w.heap.size w w' := by
  have hu31 := Try.underlying31
  have hu58 := Try.underlying58
  obtain ⟨⟨hl, hs⟩, h⟩ := Option.ite_none_right_eq_some.1 h
  obtain rfl := Option.some.inj h
  clear h
  have HR0 := Aside0.mk hr0_0
  have HL := Aside0.mk hl
  have HS := Aside0.mk hs
  have D1 : Aside0 (Below w.heap.size w ((w.alloc (.cells #[.slice A0_0 l0_0.length c0_0] 31)).alloc (.cells #[.slice none 0 0] 31))) := ⟨below_alloc (below_alloc (Below.refl _ _) _) _⟩
  have Y2 : Aside0 (((w.alloc (.cells #[.slice A0_0 l0_0.length c0_0] 31)).alloc (.cells #[.slice none 0 0] 31)).heap[w.heap.size]? = some (.cells #[.slice A0_0 l0_0.length c0_0] 31 (0, 0))) := ⟨blk_alloc (blk_new _ _) _⟩
  have Y4 : Aside0 (((w.alloc (.cells #[.slice A0_0 l0_0.length c0_0] 31)).alloc (.cells #[.slice none 0 0] 31)).heap[w.heap.size + 1]? = some (.cells #[.slice none 0 0] 31 (0, 0))) := ⟨by
    have h := blk_new (w.alloc (.cells #[.slice A0_0 l0_0.length c0_0] 31)) (.cells #[.slice none 0 0] 31)
    rw [World.size_alloc] at h
    exact h⟩
  clear hr0_0 hc0_0 hl hs
  go_enter Try.func27, Try.ntmps27
  go_upto_region 1 with (fail)
  generalize (w.alloc (.cells #[.slice A0_0 l0_0.length c0_0] 31)).alloc (.cells #[.slice none 0 0] 31) = W1 at D1 Y2 Y4 ⊢
  obtain ⟨gb1, hgb1⟩ : ∃ gb1, gb1 = w.heap.size := ⟨_, rfl⟩
  obtain ⟨gb2, hgb2⟩ : ∃ gb2, gb2 = w.heap.size + 1 := ⟨_, rfl⟩
  rw [← hgb2] at Y4 ⊢
  rw [← hgb1] at Y2
  have OS0 := Aside0.mk (spec_l05Own.Ow.start D1.out Y2.out Y4.out (by omega))
  rw [show (Value.pointer (some ⟨w.heap.size, 0, none⟩)) = .pointer (some ⟨gb1, 0, none⟩) by rw [hgb1]]
  clear hgb1 hgb2 D1 Y2 Y4
  go_upto_region 2 with (fail)
  generalize (W1.alloc (.cells #[] 58)).alloc (.cells #[.slice (some ⟨W1.heap.size, 0, none⟩) 0 0] 31) = W2 at OS0 ⊢
  generalize Value.slice (some ⟨W1.heap.size, 0, none⟩) 0 0 = v0 at OS0 ⊢
  generalize W1.heap.size + 1 = gb3 at OS0 ⊢
  go_wp2
  go_loopg [4] l0_0.length (fun gg s4 wr => ∃ (i : Nat) (v : Value), s4 = .int .i64 (i : Int) ∧ Aside0 (i ≤ l0_0.length ∧ l0_0.length ≤ i + gg) ∧ Aside0 (spec_l05Own.Ow w A0_0 c0_0 l0_0.length gb1 gb2 gb3 wr v (l0_0.take i)))
  case atStart => exact ⟨0, _, rfl, ⟨by omega⟩, by simpa using OS0⟩
  case round =>
    clear OS0
    obtain ⟨i, v, rfl, HI, HO⟩ := hrel
    have hz1 : wr.cell? ⟨gb1, 0, none⟩ = some (.slice A0_0 l0_0.length c0_0) := (blk_cell HO.out.b1 0).trans rfl
    by_cases hin : i < l0_0.length
    · have cc : decide ((i : Int) < (l0_0.length : Int)) = true := decide_eq_true (Int.ofNat_lt.2 hin)
      have p1 : (0 : Int) ≤ (i : Int) := Int.natCast_nonneg i
      have p3 : (i : Int) < (l0_0.length : Int) := Int.ofNat_lt.2 hin
      have hw2 := spec_l05Own.wr2 i l0_0.length hin HL.out
      have hsz := HS.out (l0_0.getD i z58) (by rw [List.getD_eq_getElem?_getD, List.getElem?_eq_getElem hin]; exact List.getElem_mem hin)
      have htk : l0_0.take i ++ [l0_0.getD i z58] = l0_0.take (i + 1) := by
        rw [List.take_succ_eq_append_getElem hin, List.getD_eq_getElem?_getD, List.getElem?_eq_getElem hin]
        rfl
      obtain ⟨ad, B1, d1, B2, d2, B3, d3, e0, hy0, hy1, hy2, hy3, hl1, hi1, hl2, hi2, hl3, hi3⟩ := at_T58 HR0.out (i : Int) p1 p3
      cases e0
      have ex : rd_T58 l0_0 (i : Int) = l0_0.getD i z58 := by unfold rd_T58; rw [Int.toNat_natCast]
      rw [Int.toNat_natCast] at hy0 hy1 hy2 hy3
      rw [ex] at hy0 hy1 hy2 hy3 hl1 hi1 hl2 hi2 hl3 hi3
      obtain ⟨x, hx⟩ : ∃ x, x = l0_0.getD i z58 := ⟨_, rfl⟩
      rw [← hx] at hy0 hy1 hy2 hy3 hl1 hi1 hl2 hi2 hl3 hi3 hsz htk
      obtain ⟨xb, xk, xv, xd⟩ := x
      dsimp only at hy0 hy1 hy2 hy3 hl1 hi1 hl2 hi2 hl3 hi3 hsz
      replace hy0 := (HO.out.hb.cell (World.block_lt_of_cell? w _ hy0)).trans hy0
      replace hy1 := (HO.out.hb.cell (World.block_lt_of_cell? w _ hy1)).trans hy1
      replace hy2 := (HO.out.hb.cell (World.block_lt_of_cell? w _ hy2)).trans hy2
      replace hy3 := (HO.out.hb.cell (World.block_lt_of_cell? w _ hy3)).trans hy3
      have HSZ := Aside0.mk hsz
      have HTK := Aside0.mk htk
      have G1 := Aside0.mk hi1
      have G2 := Aside0.mk hi2
      have G3 := Aside0.mk hi3
      clear hsz htk hx ex hl1 hi1 hl2 hi2 hl3 hi3
      go_upto_region 6 with (fail)
      have N4 : Aside0 (spec_l05Own.Nd wr wr.heap.size #[.bool xb, .slice B1 xk.length d1, .slice B2 xv.length d2, .slice B3 xd.length d3] (wr.alloc (.cells #[.bool xb, .slice B1 xk.length d1, .slice B2 xv.length d2, .slice B3 xd.length d3] 58))) := ⟨⟨blk_new _ _, Nat.le_refl _, below_alloc (Below.refl _ _) _⟩⟩
      obtain ⟨gb5, hgb5⟩ : ∃ gb5, gb5 = wr.heap.size := ⟨_, rfl⟩
      have N4' : Aside0 (spec_l05Own.Nd wr gb5 #[.bool xb, .slice B1 xk.length d1, .slice B2 xv.length d2, .slice B3 xd.length d3] (wr.alloc (.cells #[.bool xb, .slice B1 xk.length d1, .slice B2 xv.length d2, .slice B3 xd.length d3] 58))) := ⟨by rw [hgb5]; exact N4.out⟩
      rw [show (Value.pointer (some ⟨wr.heap.size, 0, none⟩)) = .pointer (some ⟨gb5, 0, none⟩) by rw [hgb5]]
      clear N4 hgb5 hy0 hy1 hy2 hy3 hz1
      generalize wr.alloc (.cells #[.bool xb, .slice B1 xk.length d1, .slice B2 xv.length d2, .slice B3 xd.length d3] 58) = W4 at N4' ⊢
      have N4 := N4'
      clear N4'
      go_upto_region 7 with (first
        | ((with_reducible refine gate_dst (N := 20) rfl ?_); refine Kd.R_lit Kd.string _ 9 ?hg (N := 20) ?hd (xs := ([] : List ByteArray)) (inner := []) (ok := fun _ => True) (okp := fun _ => True) ?hr ?hp (fun _ hk => hk) trivial (Below.refl _ _) (Nat.le_refl _) (by simp) ?_; (case hd => rfl); (case hg => rfl); (case hr => first | (go_simp; done) | (go_simp; rfl)); (case hp => exact (Reps.none _ _)); intro va wa ho hb hg_ hnew_; have HA := Aside0.mk ho; have BA := Aside0.mk hb; have NA := Aside0.mk (N4.out.below hb); clear ho hb hg_ hnew_; have hza := (blk_cell NA.out.b 1).trans (rfl : _ = some (Value.slice B1 xk.length d1)))
        | ((with_reducible refine gate_builtin (b := .append) (xs := #[.tmp 20, .tmp 22]) rfl ?_); at_builtin; refine Kd.R_append_rows Kd.string (w0 := W4) W4.heap.size rfl (.tmp 20) (.tmp 22) 53 9 (.string ⟨#[]⟩) 16 rfl Try.underlying53 info9 rfl (by decide) (by omega) va [] xk _ _ _ (fun _ => True) (fun _ => False) rfl rfl HA.out (Kd.C_below G1.out (HO.out.hb.trans (NA.out.d.mono HO.out.hb.size))) (fun _ _ h => h) (fun _ h => h.elim) (fun _ _ => trivial) BA.out BA.out.size (by simp only [List.length_nil]; exact spec_l05Own.cap16 _ HSZ.out.1) ?_; intro vb wb ho hb hg hat; obtain ⟨AK, cK, eb⟩ := Kd.R_slice ho; generalize List.length _ = nK at eb; subst eb; have HB := Aside0.mk ho; have BB := Aside0.mk hb; have NB := Aside0.mk (N4.out.below hb); clear ho hb hg hat; have hzb := (blk_cell NB.out.b 1).trans (rfl : _ = some (Value.slice B1 xk.length d1)); have hfb := blk_frozen NB.out.b 1))
      have N5 := Aside0.mk (NB.out.put 1 (.slice AK nK cK))
      have R1 : Aside0 (Kd.string.R 9 (wb.setCell ⟨gb5, 1, none⟩ (.slice AK nK cK)) wr.heap.size (fun _ => True) (.slice AK nK cK) xk) := ⟨Kd.R_lower (Kd.R_set HB.out NB.out.b (by decide) 1 _) N4.out.d.size⟩
      have R1b : Aside0 (∀ k_, some k_ = (Value.slice AK nK cK).ownBlock → W4.heap.size ≤ k_) := ⟨fun k_ h => Kd.R_base HB.out k_ h.symm⟩
      clear HA BA NA hza HB NB BB hzb hfb N4
      generalize wb.setCell ⟨gb5, 1, none⟩ (.slice AK nK cK) = W5 at N5 R1 ⊢
      go_upto_region 8 with (first
        | ((with_reducible refine gate_dst (N := 25) rfl ?_); refine Kd.R_lit Kd.string _ 9 ?hg (N := 25) ?hd (xs := ([] : List ByteArray)) (inner := []) (ok := fun _ => True) (okp := fun _ => True) ?hr ?hp (fun _ hk => hk) trivial (Below.refl _ _) (Nat.le_refl _) (by simp) ?_; (case hd => rfl); (case hg => rfl); (case hr => first | (go_simp; done) | (go_simp; rfl)); (case hp => exact (Reps.none _ _)); intro va wa ho hb hg_ hnew_; have HA := Aside0.mk ho; have BA := Aside0.mk hb; have NA := Aside0.mk (N5.out.below hb); clear ho hb hg_ hnew_; have hza := (blk_cell NA.out.b 2).trans (rfl : _ = some (Value.slice B2 xv.length d2)))
        | ((with_reducible refine gate_builtin (b := .append) (xs := #[.tmp 25, .tmp 27]) rfl ?_); at_builtin; refine Kd.R_append_rows Kd.string (w0 := W5) W5.heap.size rfl (.tmp 25) (.tmp 27) 53 9 (.string ⟨#[]⟩) 16 rfl Try.underlying53 info9 rfl (by decide) (by omega) va [] xv _ _ _ (fun _ => True) (fun _ => False) rfl rfl HA.out (Kd.C_below G2.out (HO.out.hb.trans (NA.out.d.mono HO.out.hb.size))) (fun _ _ h => h) (fun _ h => h.elim) (fun _ _ => trivial) BA.out BA.out.size (by simp only [List.length_nil]; exact spec_l05Own.cap16 _ HSZ.out.2.1) ?_; intro vb wb ho hb hg hat; obtain ⟨AV, cV, eb⟩ := Kd.R_slice ho; generalize List.length _ = nV at eb; subst eb; have HB := Aside0.mk ho; have BB := Aside0.mk hb; have NB := Aside0.mk (N5.out.below hb); clear ho hb hg hat; have hzb := (blk_cell NB.out.b 2).trans (rfl : _ = some (Value.slice B2 xv.length d2)); have hfb := blk_frozen NB.out.b 2))
      have N6 := Aside0.mk (NB.out.put 2 (.slice AV nV cV))
      have S1 : Aside0 (Kd.string.R 9 (wb.setCell ⟨gb5, 2, none⟩ (.slice AV nV cV)) wr.heap.size (fun _ => True) (.slice AK nK cK) xk) := ⟨Kd.R_set (Kd.R_below R1.out BB.out) NB.out.b (by decide) 2 _⟩
      have S2 : Aside0 (Kd.string.R 9 (wb.setCell ⟨gb5, 2, none⟩ (.slice AV nV cV)) wr.heap.size (fun _ => True) (.slice AV nV cV) xv) := ⟨Kd.R_lower (Kd.R_set HB.out NB.out.b (by decide) 2 _) N5.out.d.size⟩
      clear HA BA NA hza HB NB BB hzb hfb N5 R1 R1b
      generalize wb.setCell ⟨gb5, 2, none⟩ (.slice AV nV cV) = W6 at N6 S1 S2 ⊢
      go_upto_region 9 with (first
        | ((with_reducible refine gate_dst (N := 30) rfl ?_); refine Kd.R_lit (Kd.int .i64) _ 3 ?hg (N := 30) ?hd (xs := ([] : List Int)) (inner := []) (ok := fun _ => True) (okp := fun _ => True) ?hr ?hp (fun _ hk => hk) trivial (Below.refl _ _) (Nat.le_refl _) (by simp) ?_; (case hd => rfl); (case hg => rfl); (case hr => first | (go_simp; done) | (go_simp; rfl)); (case hp => exact (Reps.none _ _)); intro va wa ho hb hg_ hnew_; have HA := Aside0.mk ho; have BA := Aside0.mk hb; have NA := Aside0.mk (N6.out.below hb); clear ho hb hg_ hnew_; have hza := (blk_cell NA.out.b 3).trans (rfl : _ = some (Value.slice B3 xd.length d3)))
        | ((with_reducible refine gate_builtin (b := .append) (xs := #[.tmp 30, .tmp 32]) rfl ?_); at_builtin; refine Kd.R_append_rows (Kd.int .i64) (w0 := W6) W6.heap.size rfl (.tmp 30) (.tmp 32) 25 3 (.int .i64 0) 8 rfl Try.underlying25 info3 rfl (by decide) (by omega) va [] xd _ _ _ (fun _ => True) (fun _ => False) rfl rfl HA.out (Kd.C_below G3.out (HO.out.hb.trans (NA.out.d.mono HO.out.hb.size))) (fun _ _ h => h) (fun _ h => h.elim) (fun _ _ => trivial) BA.out BA.out.size (by simp only [List.length_nil]; exact spec_l05Own.cap8 _ HSZ.out.2.2) ?_; intro vb wb ho hb hg hat; obtain ⟨AD, cD, eb⟩ := Kd.R_slice ho; generalize List.length _ = nD at eb; subst eb; have HB := Aside0.mk ho; have BB := Aside0.mk hb; have NB := Aside0.mk (N6.out.below hb); clear ho hb hg hat; have hzb := (blk_cell NB.out.b 3).trans (rfl : _ = some (Value.slice B3 xd.length d3)); have hfb := blk_frozen NB.out.b 3))
      have N7 := Aside0.mk (NB.out.put 3 (.slice AD nD cD))
      have T1 : Aside0 (Kd.string.R 9 (wb.setCell ⟨gb5, 3, none⟩ (.slice AD nD cD)) wr.heap.size (fun _ => True) (.slice AK nK cK) xk) := ⟨Kd.R_set (Kd.R_below S1.out BB.out) NB.out.b (by decide) 3 _⟩
      have T2 : Aside0 (Kd.string.R 9 (wb.setCell ⟨gb5, 3, none⟩ (.slice AD nD cD)) wr.heap.size (fun _ => True) (.slice AV nV cV) xv) := ⟨Kd.R_set (Kd.R_below S2.out BB.out) NB.out.b (by decide) 3 _⟩
      have T3 : Aside0 ((Kd.int .i64).R 3 (wb.setCell ⟨gb5, 3, none⟩ (.slice AD nD cD)) wr.heap.size (fun _ => True) (.slice AD nD cD) xd) := ⟨Kd.R_lower (Kd.R_set HB.out NB.out.b (by decide) 3 _) N6.out.d.size⟩
      clear HA BA NA hza HB NB BB hzb hfb N6 S1 S2
      generalize wb.setCell ⟨gb5, 3, none⟩ (.slice AD nD cD) = W7 at N7 T1 T2 T3 ⊢
      have OC := Aside0.mk (HO.out.below N7.out.d)
      obtain ⟨Av, cv, ev⟩ := Kd.S_slice HO.out.ho
      generalize List.length _ = nv at ev
      subst ev
      have hz3 := (blk_cell OC.out.b3 0).trans (rfl : _ = some (Value.slice Av nv cv))
      have hy0 := (blk_cell N7.out.b 0).trans (rfl : _ = some (Value.bool xb))
      have hy1 := (blk_cell N7.out.b 1).trans (rfl : _ = some (Value.slice AK nK cK))
      have hy2 := (blk_cell N7.out.b 2).trans (rfl : _ = some (Value.slice AV nV cV))
      have hy3 := (blk_cell N7.out.b 3).trans (rfl : _ = some (Value.slice AD nD cD))
      have tg : ∀ {α : Type} {d : Kd α} {e : Nat} {u : Value} {ys : List α}, d.R e W7 wr.heap.size (fun _ => True) u ys → d.R e W7 w.heap.size (fun k_ => wr.heap.size ≤ k_ ∧ k_ < W7.heap.size) u ys := fun h => Kd.R_lower (Kd.R_mono (Kd.R_bound h) (fun k_ hk => ⟨hk.2.1, hk.2.2.1⟩)) HO.out.hb.size
      have AP := Aside0.mk (k58_mkM W7 w.heap.size (fun k_ => wr.heap.size ≤ k_ ∧ k_ < W7.heap.size) ⟨xb, xk, xv, xd⟩ (tg T1.out) (tg T2.out) (tg T3.out))
      have AQ : Aside0 (∀ k_, (wr.heap.size ≤ k_ ∧ k_ < W7.heap.size) → True ∧ some k_ ≠ (Value.slice Av nv cv).ownBlock) := ⟨fun k_ hk => ⟨trivial, fun e => Nat.lt_irrefl _ (Nat.lt_of_lt_of_le (Kd.S_lt HO.out.ho k_ e.symm) hk.1)⟩⟩
      have AO : Aside0 (Kd.S k58 58 W7 w.heap.size (fun k_ => True ∧ ¬ (wr.heap.size ≤ k_ ∧ k_ < W7.heap.size)) (.slice Av nv cv) (l0_0.take i)) := ⟨Kd.S_mono (Kd.S_below (Kd.S_bound HO.out.ho) N7.out.d) (fun k_ hk => ⟨trivial, fun h => Nat.lt_irrefl _ (Nat.lt_of_lt_of_le hk.2.2.1 h.1)⟩)⟩
      have AL : Aside0 (((l0_0.take i).length + 1) * 80 ≤ 140737488355328) := spec_l05Own.cap80 l0_0 i hin HL.out
      clear tg
      go_wp2_with ((with_reducible refine gate_builtin (b := .append) (xs := #[.tmp 36, .tmp 38]) rfl ?_); at_builtin; refine Kd.S_append k58 (w0 := w) w.heap.size rfl (.tmp 36) (.tmp 38) 29 58 (.agg #[(.bool false), (.slice none 0 0), (.slice none 0 0), (.slice none 0 0)]) 80 rfl Try.underlying29 info58 rfl (by decide) (by omega) (.slice Av nv cv) (l0_0.take i) (⟨xb, xk, xv, xd⟩ : S58) [.bool xb, .slice AK nK cK, .slice AV nV cV, .slice AD nD cD] (fun _ => True) (fun k_ => wr.heap.size ≤ k_ ∧ k_ < W7.heap.size) rfl rfl AP.out AQ.out (fun _ _ => trivial) AO.out OC.out.hb OC.out.hb.size AL.out ?_; intro v6 w6 hs hb hg hat; rw [HTK.out] at hs; obtain ⟨A6, c6, e6⟩ := Kd.S_slice hs; generalize List.length _ = n6 at e6; subst e6; have S6 := Aside0.mk (OC.out.more hg hb hs); have B7 := Aside0.mk (blk_grown OC.out.b3 hg (Kd.S_ne OC.out.ho OC.out.b3 (by decide))); clear hs hb hg hat; have hz9 := (blk_cell B7.out 0).trans (rfl : _ = some (Value.slice Av nv cv)); have hf9 := blk_frozen B7.out 0)
      go_roundg (gk - 1)
      case measure => exact spec_l05Own.meas HI.out.2 hin
      case rel => exact ⟨i + 1, _, by first | rfl | (rw [hw2]; done), spec_l05Own.next HI.out hin, S6⟩
    · have cc : decide ((i : Int) < (l0_0.length : Int)) = false := decide_eq_false (fun h => hin (Int.ofNat_lt.1 h))
      have hni : i = l0_0.length := by have := HI.out; omega
      subst hni
      rw [List.take_length] at HO
      obtain ⟨Av, cv, ev⟩ := Kd.S_slice HO.out.ho
      subst ev
      have hz3 := (blk_cell HO.out.b3 0).trans (rfl : _ = some (Value.slice Av l0_0.length cv))
      have hz2 := (blk_cell HO.out.b2 0).trans (rfl : _ = some (Value.slice none 0 0))
      have hf2 := blk_frozen HO.out.b2 0
      clear hin
      go_wp2
      refine bodyPost_ret (results_cell_row rfl _ _ gb2 31 #[.slice Av l0_0.length cv] (0, 0) _ rfl (blk_put (cs := #[.slice none 0 0]) HO.out.b2 0 _ rfl) Try.underlying31 rfl (by kernel_rfl)) rfl ?_
      exact ⟨_, rfl, Kd.S_set HO.out.ho HO.out.b2 (by decide) 0 _, HO.out.hb.setCell (p := ⟨gb2, 0, none⟩) HO.out.g2 _⟩

end Go.Proofs.Ytcefdpjlpjgaiaa.XK
