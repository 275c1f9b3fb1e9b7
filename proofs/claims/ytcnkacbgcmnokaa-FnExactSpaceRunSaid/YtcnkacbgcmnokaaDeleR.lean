/- The library's DeleteFunc over a row of held pages that the call owns, whatever the predicate; a walk. -/
import Derived.Test.YtcnkacbgcmnokaaAnyqR
import Derived.Test.YtcnkacbgcmnokaaRoomR
namespace Go.Proofs.Ytcnkacbgcmnokaa.XR.Dele
open Go Go.RowKit Go.Proofs.YtcnkacbgcmnokaaW.PrintWords Go.Proofs.YtcnkacbgcmnokaaW.PrintLast Go.Proofs.YtcnkacbgcmnokaaW.PrintMore Go.Proofs.Ytcnkacbgcmnokaa.XR Go.Proofs.Ytcnkacbgcmnokaa.XR.Room
set_option linter.unusedVariables false
set_option linter.unusedSimpArgs false
theorem own_cells {W : World} {b g n c : Nat} {ok : Nat → Prop} {xs : List S74} (h : k74.R 74 W b ok (.slice (some ⟨g, 0, none⟩) n c) xs) : ∃ cur, W.heap[g]? = some (.cells cur 74 (0, 0)) ∧ cur.size = c * 2 := by
  obtain ⟨hok, inner, ⟨ho1, ho2⟩, hr⟩ := h
  rcases ho2 with ⟨hv, _⟩ | ⟨g', cap', cur, hv, hb, hh, hnc', hcm, hcs, ht⟩
  · cases hv
  injection hv with ha _ hc
  injection ha with ha
  injection ha with hg
  subst hg; subst hc
  exact ⟨cur, hh, hcs⟩
/-- What lies behind the row's end may be written. -/
theorem wipe {W : World} {b g n c i : Nat} {ok : Nat → Prop} {xs : List S74} {seg : List Value} (h : k74.R 74 W b ok (.slice (some ⟨g, 0, none⟩) n c) xs) (hi : i ≤ n) (hs : seg.length = (n - i) * 2) :
    k74.R 74 (W.setCells g (i * 2) seg) b ok (.slice (some ⟨g, 0, none⟩) i c) (xs.take i) ∧ W.grownBy (W.setCells g (i * 2) seg) (some g) := by
  obtain ⟨hn, hnc, _⟩ := Kd.R_reads' h
  have hT := Kd.R_take h (m := i) (by omega)
  obtain ⟨s1, s2, s3, s4⟩ := setCells_same g seg (i * 2) W
  have hfar : ∀ k, k ≠ g → (W.setCells g (i * 2) seg).heap[k]? = W.heap[k]? := fun k hk => setCells_far seg _ k hk
  refine ⟨?_, ⟨s1, s2, s3, by rw [s4]; exact Nat.le_refl _, fun k _ hk => hfar k (fun he => hk (by rw [he]))⟩⟩
  obtain ⟨hok, inner, ⟨ho1, ho2⟩, hr⟩ := hT
  rcases ho2 with ⟨hv, _⟩ | ⟨g', cap', cur, hv, hb, hh, hnc', hcm, hcs, ht⟩
  · cases hv
  have hv' := hv
  injection hv with ha hl hc
  injection ha with ha
  injection ha with hg
  subst hg; subst hc
  have hsz : cur.size = c * 2 := hcs
  have hfit : i * 2 + seg.length ≤ cur.size := by omega
  obtain ⟨cur', h3, h4, h5⟩ := setCells_row seg (i * 2) W cur hh hfit
  have hle : (xs.take i).length * k74.sz ≤ i * 2 := by
    rw [List.length_take]
    show min i xs.length * 2 ≤ i * 2
    omega
  refine ⟨hok, inner, ⟨ho1, .inr ⟨g, c, cur', hv', hb, h3, hnc', hcm, by rw [h4, hcs], ?_⟩⟩, hr.1, fun j p hp => ?_⟩
  · rw [h5, List.append_assoc, List.take_append_of_le_length (Nat.le_trans hle (by rw [List.length_take, Array.length_toList]; exact Nat.le_min.2 ⟨Nat.le_refl _, Nat.le_trans (Nat.le_add_right _ _) hfit⟩)), List.take_take, Nat.min_eq_left hle]
    exact ht
  · have hM := k74_openM (hr.2 j p hp)
    rw [hM]
    exact k74_mkM _ _ _ p
theorem zeros_len (m : Nat) : (Builtin.zeroCells (Value.agg #[.int .i64 0, .int .i64 0]).cells m).toList.length = m * 2 := by
  simp [Builtin.zeroCells, Value.cells]
theorem zeros_one (m : Nat) : ∀ v ∈ (Builtin.zeroCells (Value.agg #[.int .i64 0, .int .i64 0]).cells m).toList, v.oneCell' = true := by
  intro v hv
  have : v = .int .i64 0 := by
    simp only [Builtin.zeroCells, Value.cells, Array.toList_map, List.mem_map] at hv
    obtain ⟨j, _, rfl⟩ := hv
    rcases Nat.mod_two_eq_zero_or_one j with h | h
    · exact (congrArg (fun q => (#[Value.int .i64 0, Value.int .i64 0] : Array Value)[q]!) h).trans rfl
    · exact (congrArg (fun q => (#[Value.int .i64 0, Value.int .i64 0] : Array Value)[q]!) h).trans rfl
  rw [this]
  rfl
theorem clr {W : World} {b g n c i : Nat} {ok : Nat → Prop} {xs : List S74} (h : k74.R 74 W b ok (.slice (some ⟨g, 0, none⟩) n c) xs) (hi : i < n) (ty : TypeId) :
    (Builtin.clear_ #[29] ty #[.slice (some ⟨g, i * 2, none⟩) (n - i) (c - i)]).run Try.prog W = .ok (.tuple #[]) (W.setCells g (i * 2) (Builtin.zeroCells (Value.agg #[.int .i64 0, .int .i64 0]).cells (n - i)).toList) := by
  obtain ⟨hn, hnc, _⟩ := Kd.R_reads' h
  obtain ⟨cur, hh, hcs⟩ := own_cells h
  have hv : ∀ w, (zeroValue 74).run Try.prog w = .ok (.agg #[.int .i64 0, .int .i64 0]) w := fun w => by kernel_rfl
  have hst := run_storeCells_cells (P := Try.prog) g (i * 2) (Builtin.zeroCells (Value.agg #[.int .i64 0, .int .i64 0]).cells (n - i)).toList 0 W (fun j hj => by
    rw [zeros_len] at hj
    simp only [World.cell?, hh, Nat.add_zero]
    simp only [Option.isSome_none, Bool.false_eq_true, if_false]
    rw [Array.getElem?_eq_getElem (by omega)]
    rfl) (fun j _ => by simp [World.frozen?, hh]) (zeros_one _)
  simp only [Nat.add_zero] at hst
  obtain ⟨m, hm⟩ : ∃ m, n - i = m + 1 := ⟨n - i - 1, by omega⟩
  rw [hm] at hst ⊢
  simp [Builtin.clear_, run_underlying Try.underlying29, hv, hst]
theorem idx_cases (p : S74 → Bool) : ∀ (l : List S74) (i : Nat), (Lib.idxByFrom (fun _ y => p y) z74 l i = -1 ∧ l.filter (fun x => !p x) = l) ∨ ∃ k, k < l.length ∧ Lib.idxByFrom (fun _ y => p y) z74 l i = ((i + k : Nat) : Int) ∧ (l.take k).filter (fun x => !p x) = l.take k ∧ p (l.getD k z74) = true
  | [], _ => .inl ⟨rfl, rfl⟩
  | y :: r, i => by
    cases h : p y with
    | true => exact .inr ⟨0, by simp, by simp [Lib.idxByFrom, h], rfl, by simpa using h⟩
    | false =>
      rcases idx_cases p r (i + 1) with ⟨e, ha⟩ | ⟨k, hk, e, ht, ha⟩
      · exact .inl ⟨by simp [Lib.idxByFrom, h, e], by simp [h, ha]⟩
      · refine .inr ⟨k + 1, by simpa using hk, ?_, by simp [h, ht], by simpa using ha⟩
        simp only [Lib.idxByFrom, h]
        rw [show (if false = true then (i : Int) else Lib.idxByFrom (fun _ y => p y) z74 r (i + 1)) = Lib.idxByFrom (fun _ y => p y) z74 r (i + 1) from rfl, e]
        congr 1
        omega
/-- j places have been looked at; what is kept of them lies at the front. -/
structure Inv (f : S74 → Bool) (l cl : List S74) (i j : Nat) : Prop where
  len : cl.length = l.length
  low : cl.take i = (l.take j).filter f
  high : cl.drop j = l.drop j
  cnt : ((l.take j).filter f).length = i
  lt : i < j
  le : j ≤ l.length
theorem take1 (l : List S74) (j : Nat) (h : j < l.length) : l.take (j + 1) = l.take j ++ [l.getD j z74] := by
  rw [List.take_succ_eq_append_getElem h, List.getD_eq_getElem?_getD, List.getElem?_eq_getElem h]
  rfl
theorem Inv.get {f : S74 → Bool} {l cl : List S74} {i j : Nat} (I : Inv f l cl i j) (h : j < l.length) : cl.getD j z74 = l.getD j z74 := by
  have h1 : (cl.drop j)[0]? = (l.drop j)[0]? := by rw [I.high]
  rw [List.getElem?_drop, List.getElem?_drop, Nat.add_zero] at h1
  rw [List.getD_eq_getElem?_getD, List.getD_eq_getElem?_getD, h1]
theorem Inv.skip {f : S74 → Bool} {l cl : List S74} {i j : Nat} (I : Inv f l cl i j) (h : j < l.length) (hf : f (l.getD j z74) = false) : Inv f l cl i (j + 1) := by
  have e : (l.take (j + 1)).filter f = (l.take j).filter f := by rw [take1 l j h, List.filter_append, List.filter_cons, if_neg (by rw [hf]; decide), List.filter_nil, List.append_nil]
  exact ⟨I.len, by rw [e]; exact I.low, by rw [← List.drop_drop, ← List.drop_drop, I.high], by rw [e]; exact I.cnt, Nat.lt_succ_of_lt I.lt, h⟩
theorem Inv.keep {f : S74 → Bool} {l cl : List S74} {i j : Nat} (I : Inv f l cl i j) (h : j < l.length) (hf : f (l.getD j z74) = true) : Inv f l (cl.set i (l.getD j z74)) (i + 1) (j + 1) := by
  have e : (l.take (j + 1)).filter f = (l.take j).filter f ++ [l.getD j z74] := by rw [take1 l j h, List.filter_append, List.filter_cons, if_pos hf, List.filter_nil]
  have hi : i < cl.length := by have := I.lt; have := I.len; omega
  refine ⟨by rw [List.length_set]; exact I.len, ?_, ?_, by rw [e, List.length_append, I.cnt]; rfl, Nat.succ_lt_succ I.lt, h⟩
  · rw [e, ← I.low, take1 _ i (by rw [List.length_set]; exact hi), List.take_set_of_le (Nat.le_refl _), List.getD_eq_getElem?_getD, List.getElem?_set_self hi]
    rfl
  · rw [List.drop_set_of_lt (by have := I.lt; omega), ← List.drop_drop, ← List.drop_drop, I.high]
theorem Inv.start {f : S74 → Bool} {l : List S74} {k : Nat} (hk : k < l.length) (ht : (l.take k).filter f = l.take k) (ha : f (l.getD k z74) = false) : Inv f l l k (k + 1) := by
  have e : (l.take (k + 1)).filter f = l.take k := by rw [take1 l k hk, List.filter_append, ht, List.filter_cons, if_neg (by rw [ha]; decide), List.filter_nil, List.append_nil]
  exact ⟨rfl, e.symm, rfl, by rw [e, List.length_take]; omega, Nat.lt_succ_self _, hk⟩
set_option maxHeartbeats 4000000 in
theorem del (p : S74 → Bool) (g : Nat) (lb : Array Value) (b : Nat) (A : Option Addr) (c : Nat) (l : List S74) (w : World)
    (eg : ∀ args w, (callFunc g args).run Try.prog w = .ok (.enter g args) w)
    (hp : ∀ (V : World) (x : S74), Kept w V (fun k => some k = (Value.slice A l.length c).ownBlock) → Calls Try.prog g (#[.agg #[.int .i64 x.f0, .int .i64 x.f1]] ++ lb) V fun e V' => e = .returned (.bool (p x)) ∧ Below V.heap.size V V')
    (hb : b ≤ w.heap.size) (hr : k74.R 74 w b (fun _ => True) (.slice A l.length c) l) :
    Calls Try.prog 71 #[.slice A l.length c, .func (.func g) #[] lb] w fun e w' => e = .returned (.slice A (l.filter fun x => !p x).length c) ∧ k74.R 74 w' b (fun _ => True) (.slice A (l.filter fun x => !p x).length c) (l.filter fun x => !p x) ∧ Below b w w' ∧ Kept w w' (fun k => some k = (Value.slice A l.length c).ownBlock) := by
  have hm : l.length ≤ 9223372036854775807 := (Kd.R_reads' hr).2.2.2.1
  have hI := impl_SpaceOKb_idx p g lb A c l w eg (fun W x hW => hp W x (Kept.of_below hW _)) (Kd.R_reads' hr).2.2
  rcases idx_cases p l 0 with ⟨e1, hf⟩ | ⟨k, hk, e1, ht, ha⟩
  · rw [show Lib.idxBy (fun _ y => p y) l z74 = -1 from e1] at hI
    rw [hf]
    have HI := Aside0.mk hI
    have HR := Aside0.mk hr
    clear hI hr hp hf e1
    go_enter Try.func71, Try.ntmps71
    go_wp2_with (go_at_call 68; (with_reducible refine HI.out.mono ?_); rintro e w' ⟨rfl, hB⟩; have D := Aside0.mk hB; clear hB)
    go_ret
    exact ⟨rfl, Kd.R_below HR.out D.out, D.out.mono hb, Kept.of_below D.out _⟩
  · rw [show Lib.idxBy (fun _ y => p y) l z74 = (k : Int) from by unfold Lib.idxBy; rw [e1, Nat.zero_add]] at hI
    have hI0 := Inv.start (f := fun x => !p x) hk ht (by rw [ha]; rfl)
    obtain ⟨gr, cr, er, _⟩ := Kd.R_form hr (by omega)
    injection er with ea en ec
    subst ea; subst ec
    clear en
    obtain ⟨n, hn⟩ : ∃ n, n = l.length := ⟨_, rfl⟩
    have HN := Aside0.mk hn
    rw [← hn] at hr hI hp hk hm ⊢
    have HI := Aside0.mk hI
    have HR := Aside0.mk hr
    have HP := Aside0.mk hp
    have HI0 := Aside0.mk hI0
    have hne : ((k : Int) == -1) = false := beq_eq_false_iff_ne.2 (by omega)
    have kz : (k : Int) < (n : Int) := Int.ofNat_lt.2 hk
    clear hI hr hp hI0 e1 ht ha hn
    go_enter Try.func71, Try.ntmps71
    go_wp2_with (go_at_call 68; (with_reducible refine HI.out.mono ?_); rintro e w' ⟨rfl, hB⟩; have D := Aside0.mk hB; clear hB)
    go_loopg [5, 6, 7] n (fun gg s5 s6 s7 wr => ∃ (i j : Nat) (cl : List S74), s5 = .int .i64 (i : Int) ∧ s6 = .int .i64 (j : Int) ∧ Aside0 (n ≤ j + gg) ∧ Aside0 (Inv (fun x => !p x) l cl i j) ∧ Aside0 (k74.R 74 wr b (fun _ => True) (.slice (some ⟨gr, 0, none⟩) n c) cl) ∧ Aside0 (Below b w wr) ∧ Aside0 (Kept w wr (fun k => some k = (Value.slice (some ⟨gr, 0, none⟩) n c).ownBlock)))
    case atStart => exact ⟨k, k + 1, l, rfl, by first | rfl | go_num, ⟨by omega⟩, HI0, ⟨Kd.R_below HR.out D.out⟩, ⟨D.out.mono hb⟩, ⟨Kept.of_below D.out _⟩⟩
    case round =>
      clear HR HI0 D HI
      obtain ⟨i, j, cl, rfl, rfl, HG, HV, HA, HB, HK⟩ := hrel
      by_cases hjn : j < n
      · have cj : decide ((j : Int) < (n : Int)) = true := decide_eq_true (Int.ofNat_lt.2 hjn)
        have p1 : (0 : Int) ≤ (j : Int) := Int.natCast_nonneg j
        have p2 : (j : Int) < (n : Int) := Int.ofNat_lt.2 hjn
        have q1 : (0 : Int) ≤ (i : Int) := Int.natCast_nonneg i
        have q2 : (i : Int) < (n : Int) := Int.ofNat_lt.2 (Nat.lt_trans HV.out.lt hjn)
        obtain ⟨x, hx⟩ : ∃ x, x = cl.getD j z74 := ⟨_, rfl⟩
        have hx2 : x = l.getD j z74 := by rw [hx]; exact HV.out.get (by rw [← HN.out]; exact hjn)
        obtain ⟨ce, hcl, hM, hcc, hfr⟩ := Kd.R_elem HA.out z74 (j : Int) p1 p2
        obtain rfl := k74_openM hM
        rw [Int.toNat_natCast] at hcc hfr
        rw [← hx] at hcc
        have hy0 : wr.cell? ⟨gr, j * 2, none⟩ = some (.int .i64 x.f0) := hcc 0 _ rfl
        have hy1 : wr.cell? ⟨gr, j * 2 + 1, none⟩ = some (.int .i64 x.f1) := hcc 1 _ rfl
        clear hcl hM hcc hfr hx
        have BA := below_alloc (Below.refl wr.heap.size wr) (.cells #[.int .i64 x.f0, .int .i64 x.f1] 74)
        have hbx := blk_new wr (.cells #[.int .i64 x.f0, .int .i64 x.f1] 74)
        have HC := Aside0.mk (HP.out (wr.alloc (.cells #[.int .i64 x.f0, .int .i64 x.f1] 74)) x (HK.out.below BA))
        have RA := Aside0.mk (Kd.R_below HA.out BA)
        have DA := Aside0.mk (HB.out.trans (BA.mono (Nat.le_trans hb HB.out.size)))
        have KA := Aside0.mk (HK.out.below BA)
        have XB := Aside0.mk hbx
        have HX := Aside0.mk hx2
        have hz0 := (blk_cell hbx 0).trans (rfl : _ = some (Value.int .i64 x.f0))
        have hz1 := (blk_cell hbx 1).trans (rfl : _ = some (Value.int .i64 x.f1))
        clear BA hbx hx2 HA HB HK
        cases hq : p x with
        | true =>
          rw [hq] at HC
          have HQ := Aside0.mk hq
          clear hq
          go_wp2_with (go_at_fn g; refine HC.out.mono ?_; rintro e w2 ⟨rfl, hB⟩; have D := Aside0.mk hB; clear hB)
          go_roundg (gk - 1)
          case measure => have := HG.out; omega
          case rel => exact ⟨i, j + 1, cl, rfl, by first | rfl | go_num, ⟨by have := HG.out; omega⟩, ⟨HV.out.skip (by rw [← HN.out]; exact hjn) (by rw [← HX.out, HQ.out]; rfl)⟩, ⟨Kd.R_below RA.out D.out⟩, ⟨DA.out.trans (D.out.mono (Nat.le_trans hb DA.out.size))⟩, ⟨KA.out.below D.out⟩⟩
        | false =>
          rw [hq] at HC
          have HQ := Aside0.mk hq
          clear hq
          go_wp2_with (go_at_fn g; refine HC.out.mono ?_; rintro e w2 ⟨rfl, hB⟩; have D := Aside0.mk hB; clear hB; have XC := Aside0.mk (blk_below XB.out D.out); have RC := Aside0.mk (Kd.R_below RA.out D.out); have hy2 := (blk_cell XC.out 0).trans (rfl : _ = some (Value.int .i64 x.f0)); have hy3 := (blk_cell XC.out 1).trans (rfl : _ = some (Value.int .i64 x.f1)); obtain ⟨cf, hcl, hM, hcc, hfr⟩ := Kd.R_elem RC.out z74 (i : Int) q1 q2; obtain rfl := k74_openM hM; have SP := Aside0.mk (Kd.R_seg RC.out (i : Int) q1 q2 (seg := [.int .i64 x.f0, .int .i64 x.f1]) (j := 0) hcl hcc (show 2 ≤ 2 from by decide) (x' := x) (k74_mkM _ _ _ x) (fun _ hk => hk)); rw [Int.toNat_natCast] at hcc hfr SP; have hu0 : w2.cell? ⟨gr, i * 2, none⟩ = some (.int .i64 _) := hcc 0 _ rfl; have hu1 : w2.cell? ⟨gr, i * 2 + 1, none⟩ = some (.int .i64 _) := hcc 1 _ rfl; have hv0 : w2.frozen? ⟨gr, i * 2, none⟩ = false := hfr 0; have hv1 : w2.frozen? ⟨gr, i * 2 + 1, none⟩ = false := hfr 1; clear hcl hM hcc hfr)
          go_roundg (gk - 1)
          case measure => have := HG.out; omega
          case rel =>
            have hs : w2.setCells gr (i * 2 + 0) [.int .i64 x.f0, .int .i64 x.f1] = (w2.setCell ⟨gr, i * 2, none⟩ (.int .i64 x.f0)).setCell ⟨gr, i * 2 + 1, none⟩ (.int .i64 x.f1) := rfl
            have hbg := Kd.R_base RC.out gr (by simp [Value.ownBlock])
            refine ⟨i + 1, j + 1, cl.set i x, by first | rfl | go_num, by first | rfl | go_num, ⟨by have := HG.out; omega⟩, ⟨?_⟩, ⟨?_⟩, ⟨?_⟩, ⟨?_⟩⟩
            · rw [HX.out]
              exact HV.out.keep (by rw [← HN.out]; exact hjn) (by rw [← HX.out, HQ.out]; rfl)
            · exact SP.out.1
            · exact ((DA.out.trans (D.out.mono (Nat.le_trans hb DA.out.size))).setCell (p := ⟨gr, i * 2, none⟩) hbg _).setCell (p := ⟨gr, i * 2 + 1, none⟩) hbg _
            · exact kept_put (kept_put (KA.out.below D.out) gr (i * 2) _ (by simp [Value.ownBlock])) gr (i * 2 + 1) _ (by simp [Value.ownBlock])
      · have cj : decide ((j : Int) < (n : Int)) = false := decide_eq_false (fun h => hjn (Int.ofNat_lt.1 h))
        have hje : j = n := by have := HV.out.le; have := HN.out; omega
        subst hje
        have hin : i < j := HV.out.lt
        have hnc := (Kd.R_reads' HA.out).2.1
        have hcl := fun ty => clr HA.out hin ty
        have hwp := wipe (seg := (Builtin.zeroCells (Value.agg #[.int .i64 0, .int .i64 0]).cells (j - i)).toList) HA.out (Nat.le_of_lt hin) (zeros_len _)
        have hfl : l.filter (fun x => !p x) = cl.take i := by
          have h1 := HV.out.low
          rw [HN.out, List.take_length] at h1
          exact h1.symm
        have hfn : (cl.take i).length = i := by rw [List.length_take, HV.out.len, ← HN.out]; omega
        have WP := Aside0.mk hwp
        have HF := Aside0.mk (And.intro hfl hfn)
        generalize (Builtin.zeroCells (Value.agg #[.int .i64 0, .int .i64 0]).cells (j - i)).toList = seg at hcl WP
        clear hwp hfl hfn
        have q1 : (0 : Int) ≤ (i : Int) := Int.natCast_nonneg i
        have q2 : (i : Int) ≤ (j : Int) := Int.ofNat_le.2 (Nat.le_of_lt hin)
        have q3 : (i : Int) ≤ (c : Int) := Int.ofNat_le.2 (Nat.le_of_lt (Nat.lt_of_lt_of_le hin hnc))
        go_wp2
        go_ret
        have hbg := Kd.R_base HA.out gr (by simp [Value.ownBlock])
        rw [HF.out.1, HF.out.2]
        refine ⟨rfl, WP.out.1, HB.out.trans ⟨WP.out.2.os, WP.out.2.tape, WP.out.2.output, WP.out.2.size, fun q hq => ?_⟩, HK.out.then_ (grown_kept (v := .slice (some ⟨gr, 0, none⟩) j c) WP.out.2) (fun q hq => .inl hq)⟩
        exact setCells_far seg _ q (fun e => by omega)
end Go.Proofs.Ytcnkacbgcmnokaa.XR.Dele
