/- The library's Delete of one number out of a row that the call owns; a walk. -/
import Derived.Test.YtcnkacbgcmnokaaRoomR
import Derived.Deep.RegionLaw
namespace Go.Proofs.Ytcnkacbgcmnokaa.XR.Deli
open Go Go.RowKit Go.Proofs.YtcnkacbgcmnokaaW.PrintWords Go.Proofs.YtcnkacbgcmnokaaW.PrintLast Go.Proofs.YtcnkacbgcmnokaaW.PrintMore Go.Proofs.Ytcnkacbgcmnokaa.XR Go.Proofs.Ytcnkacbgcmnokaa.XR.Room
set_option linter.unusedVariables false
set_option linter.unusedSimpArgs false
theorem own_cells {W : World} {b g n c : Nat} {ok : Nat → Prop} {xs : List Int} (h : (Kd.int .i64).R 3 W b ok (.slice (some ⟨g, 0, none⟩) n c) xs) : ∃ cur, W.heap[g]? = some (.cells cur 3 (0, 0)) ∧ cur.size = c := by
  obtain ⟨hok, inner, ⟨ho1, ho2⟩, hr⟩ := h
  rcases ho2 with ⟨hv, _⟩ | ⟨g', cap', cur, hv, hb, hh, hnc', hcm, hcs, ht⟩
  · cases hv
  injection hv with ha _ hc
  injection ha with ha
  injection ha with hg
  subst hg; subst hc
  exact ⟨cur, hh, hcs.trans (Nat.mul_one _)⟩
/-- The cell behind the row's end may be written. -/
theorem wipe {W : World} {b g m c : Nat} {ok : Nat → Prop} {xs : List Int} (v : Value) (h : (Kd.int .i64).R 3 W b ok (.slice (some ⟨g, 0, none⟩) m c) xs) (hm : m < c) :
    (Kd.int .i64).R 3 (W.setCells g m [v]) b ok (.slice (some ⟨g, 0, none⟩) m c) xs ∧ W.grownBy (W.setCells g m [v]) (some g) := by
  obtain ⟨hn, _, _⟩ := Kd.R_reads' h
  obtain ⟨s1, s2, s3, s4⟩ := setCells_same g [v] m W
  have hfar : ∀ k, k ≠ g → (W.setCells g m [v]).heap[k]? = W.heap[k]? := fun k hk => setCells_far [v] _ k hk
  refine ⟨?_, ⟨s1, s2, s3, by rw [s4]; exact Nat.le_refl _, fun k _ hk => hfar k (fun he => hk (by rw [he]))⟩⟩
  obtain ⟨hok, inner, ⟨ho1, ho2⟩, hr⟩ := h
  rcases ho2 with ⟨hv, _⟩ | ⟨g', cap', cur, hv, hb, hh, hnc', hcm, hcs, ht⟩
  · cases hv
  have hv' := hv
  injection hv with ha hl hc
  injection ha with ha
  injection ha with hg
  subst hg; subst hc
  have hsz : cur.size = c := hcs.trans (Nat.mul_one _)
  obtain ⟨cur', h3, h4, h5⟩ := setCells_row [v] m W cur hh (by rw [hsz]; exact hm)
  have hle : xs.length * (Kd.int .i64).sz = m := (Nat.mul_one _).trans hn.symm
  refine ⟨hok, inner, ⟨ho1, .inr ⟨g, c, cur', hv', hb, h3, hnc', hcm, by rw [h4, hcs], ?_⟩⟩, hr.1, fun j p hp => hr.2 j p hp⟩
  rw [h5, List.append_assoc, List.take_append_of_le_length (by rw [hle, List.length_take, Array.length_toList]; omega), List.take_take, hle, Nat.min_self, ← hle]
  exact ht
theorem at_add (g i c : Nat) : (if c = i + 1 then some (⟨g, 0, none⟩ : Addr) else some ⟨g, i + 1, none⟩) = if c = i + 1 then some ⟨g, 0, none⟩ else (some (⟨g, 0, none⟩ : Addr)).map (·.add ((i + 1) * (Kd.int .i64).sz)) := by
  rw [show (i + 1) * (Kd.int .i64).sz = i + 1 from Nat.mul_one _, Option.map_some, show (⟨g, 0, none⟩ : Addr).add (i + 1) = ⟨g, i + 1, none⟩ from by unfold Addr.add; simp]
theorem clr {W : World} {b g m c : Nat} {ok : Nat → Prop} {xs : List Int} (h : (Kd.int .i64).R 3 W b ok (.slice (some ⟨g, 0, none⟩) m c) xs) (hm : m < c) (ty : TypeId) (c' : Nat) :
    (Builtin.clear_ #[22] ty #[.slice (some ⟨g, m, none⟩) 1 c']).run Try.prog W = .ok (.tuple #[]) (W.setCells g m [.int .i64 0]) := by
  obtain ⟨cur, hh, hcs⟩ := own_cells h
  exact Lib.run_clear_slice W 22 3 ty (.int .i64 0) Try.underlying22 (fun w => by kernel_rfl) rfl rfl g m 1 c' (by omega) (fun j hj => by
    obtain rfl : j = 0 := by omega
    simp only [World.cell?, hh, Nat.add_zero]
    simp only [Option.isSome_none, Bool.false_eq_true, if_false]
    rw [Array.getElem?_eq_getElem (by omega)]
    rfl) (fun j _ => by simp [World.frozen?, hh])
set_option maxHeartbeats 4000000 in
set_option maxRecDepth 100000 in
theorem del (b : Nat) (A : Option Addr) (c : Nat) (l : List Int) (i : Nat) (w : World) (hi : i < l.length) (hl : l.length ≤ 1048576) (hb : b ≤ w.heap.size) (hr : (Kd.int .i64).R 3 w b (fun _ => True) (.slice A l.length c) l) :
    Calls Try.prog 63 #[.slice A l.length c, .int .i64 (i : Int), .int .i64 ((i : Int) + 1)] w fun e w' => e = .returned (.slice A (l.length - 1) c) ∧ (Kd.int .i64).R 3 w' b (fun _ => True) (.slice A (l.length - 1) c) (l.eraseIdx i) ∧ Below b w w' ∧ Kept w w' (fun k => some k = (Value.slice A l.length c).ownBlock) := by
  obtain ⟨g, cr, er, _⟩ := Kd.R_form hr (by omega)
  injection er with ea en ec
  subst ea; subst ec
  clear en
  obtain ⟨n, hn⟩ : ∃ n, n = l.length := ⟨_, rfl⟩
  rw [← hn] at hr hi hl ⊢
  have hnc := (Kd.R_reads' hr).2.1
  have hcm : c ≤ 9223372036854775807 := (Kd.R_own hr).choose_spec.2.elim (fun h => by cases h.1) (fun ⟨g', cap', cur, hv, _, _, _, hm, _⟩ => by injection hv with _ _ hc; rw [hc]; exact hm)
  have HR := Aside0.mk hr
  have p1 : (0 : Int) ≤ (i : Int) := Int.natCast_nonneg i
  have p2 : (i : Int) < (n : Int) := Int.ofNat_lt.2 hi
  have p3 : (i : Int) + 1 ≤ (n : Int) := by omega
  have p7 : (0 : Int) ≤ (i : Int) + 1 := by omega
  have p4 : (n : Int) ≤ (c : Int) := Int.ofNat_le.2 hnc
  have p5 : (i : Int) ≤ (c : Int) := by omega
  have p6 : (i : Int) + 1 ≤ (c : Int) := by omega
  have ce : ((i : Int) == (i : Int) + 1) = false := beq_eq_false_iff_ne.2 (by omega)
  have HN := Aside0.mk hn
  clear hr hn
  go_enter Try.func63, Try.ntmps63
  go_upto_region 5 with (fail)
  go_cut [0] (fun s0 wx => s0 = .slice (some ⟨g, 0, none⟩) (n - 1) c ∧ Aside0 ((Kd.int .i64).R 3 wx b (fun _ => True) (.slice (some ⟨g, 0, none⟩) (n - 1) c) (l.eraseIdx i)) ∧ Aside0 (Below b w wx) ∧ Aside0 (Kept w wx (fun k => some k = some g)))
  case first =>
    go_region_law (refine Kd.R_delete_step (W := w.drew) (Kd.int .i64) (w0 := w) b (by rfl) (.tmp 22) (.tmp 25) 22 3 rfl Try.underlying22 (by kernel_rfl) (g := g) (n := n) (c := c) (k := i) (xs := l) (ok := fun _ => True) rfl rfl ?hA ?hm ?hO ?hk ?hB ?hS ?_; (case hA => exact at_add _ _ _); (case hm => rfl); (case hO => exact HR.out); (case hk => exact hi); (case hB => repeat (first | exact Below.refl _ _ | apply pw_below_drewN | apply below_drew1)); (case hS => exact hb); intro w1 ho hB hg; have AP := Aside0.mk (And.intro ho (And.intro hB hg)); clear ho hB hg)
    all_goals (go_wp2_with fail; all_goals (go_meet; first | exact ⟨rfl, ⟨AP.out.1⟩, ⟨AP.out.2.1⟩, ⟨grown_kept' (v := .slice (some ⟨g, 0, none⟩) n c) AP.out.2.2⟩⟩ | exact ⟨by have hc_ : c = i + 1 := (by assumption); rw [hc_], ⟨AP.out.1⟩, ⟨AP.out.2.1⟩, ⟨grown_kept' (v := .slice (some ⟨g, 0, none⟩) n c) AP.out.2.2⟩⟩))
  case rest =>
    obtain ⟨rfl, HA, HB, HK⟩ := hcut
    obtain ⟨m, hm⟩ : ∃ m, n = m + 1 := ⟨n - 1, by omega⟩
    subst hm
    rw [Nat.add_sub_cancel] at HA ⊢
    have hmc : m < c := by omega
    have hcl := fun ty c' => clr HA.out hmc ty c'
    have WP := Aside0.mk (wipe (.int .i64 0) HA.out hmc)
    have hmn : ¬ c = m := by omega
    have q1 : (m : Int) ≤ (m : Int) + 1 := by omega
    have q2 : (m : Int) + 1 ≤ (c : Int) := by omega
    have q3 : (0 : Int) ≤ (m : Int) + 1 := by omega
    clear p1 p2 p3 p5 p6 p7 ce
    go_wp2
    go_ret
    refine ⟨rfl, WP.out.1, HB.out.trans ⟨WP.out.2.os, WP.out.2.tape, WP.out.2.output, WP.out.2.size, fun q hq => setCells_far _ _ q (fun e => ?_)⟩, HK.out.then_ (grown_kept (v := .slice (some ⟨g, 0, none⟩) (m + 1) c) WP.out.2) (fun q hq => .inl hq)⟩
    have := Kd.R_base HA.out g (by simp [Value.ownBlock])
    omega
end Go.Proofs.Ytcnkacbgcmnokaa.XR.Deli
