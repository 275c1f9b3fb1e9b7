-- Written for this claim: a contract of one function, proved by hand; the places of its template filled by a program.
import Derived.Test.YtnbhpoajbplfkaaXW0
import Derived.Test.YtnbhpoajbplfkaaXW1
import Derived.Laws.CopyOwn
import Derived.Deep.RegionLaw
namespace Go.Proofs.Ytnbhpoajbplfkaa.XW
open Go Go.RowKit Go.Proofs.YtnbhpoajbplfkaaW.PrintWords Go.Proofs.YtnbhpoajbplfkaaW.PrintLast Go.Proofs.YtnbhpoajbplfkaaW.PrintMore
set_option linter.unusedVariables false
set_option linter.unusedSimpArgs false
/-- One text, told often: what NewDisk asks of it. -/
def slices_Repeat_string_string.f (l0 : List ByteArray) (a1 : Int) : Option (List ByteArray) := if l0.length = 1 ∧ 1 ≤ a1 ∧ a1 ≤ 1000 then some (List.replicate a1.toNat (l0.getD 0 ⟨#[]⟩)) else none
theorem slices_Repeat_string_string.mul : ∀ c : Fin 1001, bits_Mul.f 1 ((c : Nat) : Int) = some (0, ((c : Nat) : Int)) := by decide +kernel
theorem slices_Repeat_string_string.muln (c : Nat) (h : c ≤ 1000) : bits_Mul.f 1 (c : Int) = some (0, (c : Int)) := slices_Repeat_string_string.mul ⟨c, by omega⟩
theorem slices_Repeat_string_string.splice_fill (x : Value) (L : List Value) (m d c : Nat) (hL : L.take m = List.replicate m x) (h : m + d ≤ L.length) : (splice L m (List.replicate d x)).take (m + d) = List.replicate (m + d) x := by
  unfold splice
  rw [List.take_append, hL, List.take_of_length_le (by simp)]
  have : (L.take m).length = m := by simp; omega
  rw [hL] at this
  rw [show m + d - (List.replicate m x).length = d by simp, List.take_append_of_le_length (by simp), List.take_of_length_le (by simp), List.replicate_append_replicate]
theorem slices_Repeat_string_string.read {w : World} {g m d j : Nat} {M : List Value} {x v : Value} {t : TypeId} (hb : w.heap[g]? = some (.cells M.toArray t (0, 0))) (hM : M.take m = List.replicate m x) (hd : d ≤ m) (hj : (List.replicate d x)[j]? = some v) : w.cell? ((⟨g, 0, none⟩ : Addr).add j) = some v := by
  have hjd : j < d := by
    have := (List.getElem?_eq_some_iff.1 hj).1
    simpa using this
  have hv : v = x := by
    rw [List.getElem?_replicate, if_pos hjd] at hj
    exact (Option.some.inj hj).symm
  have h1 : (M.take m)[j]? = some x := by rw [hM, List.getElem?_replicate, if_pos (by omega)]
  rw [List.getElem?_take, if_pos (by omega)] at h1
  rw [hv, show ((⟨g, 0, none⟩ : Addr).add j) = ⟨g, j, none⟩ by (simp [Addr.add]; exact fun h => h.symm), blk_cell hb j]
  simpa using h1
theorem slices_Repeat_string_string.made {w : World} {v : Value} {c base : Nat} {ok : Nat → Prop} {z : ByteArray} (h1 : 1 ≤ c) (h : Kd.R Kd.string 9 w base ok v (List.replicate c z)) : ∃ g cap, ∃ L : List Value, v = .slice (some ⟨g, 0, none⟩) c cap ∧ base ≤ g ∧ w.heap[g]? = some (.cells L.toArray 9 (0, 0)) ∧ c ≤ cap ∧ cap ≤ maxLen ∧ L.length = cap := by
  have HO : w.ownsRow base 9 1 v (List.replicate c z).length (encs Value.string (List.replicate c z)) := Kd.own_of_R (h1 := fun _ => rfl) h
  rw [List.length_replicate] at HO
  rcases HO.2 with ⟨_, hn⟩ | ⟨g, cap, cur, rfl, hbase, hb, k1, k2, k3, _⟩
  · omega
  · exact ⟨g, cap, cur.toList, rfl, hbase, by simpa using hb, k1, k2, by simpa using k3⟩
theorem slices_Repeat_string_string.done {w : World} {c cap g base : Nat} {L : List Value} {x : ByteArray} (hb : w.heap[g]? = some (.cells L.toArray 9 (0, 0))) (hbase : base ≤ g) (k1 : c ≤ cap) (k2 : cap ≤ maxLen) (k3 : L.length = cap) (hL : L.take c = List.replicate c (.string x)) :
    Kd.R Kd.string 9 w base (fun _ => True) (.slice (some ⟨g, 0, none⟩) c cap) (List.replicate c x) := by
  have ho : w.ownsRow base 9 1 (.slice (some ⟨g, 0, none⟩) c cap) (List.replicate c x).length (encs Value.string (List.replicate c x)) := by
    rw [List.length_replicate]
    exact ⟨by simp [encs], .inr ⟨g, cap, L.toArray, rfl, hbase, hb, k1, k2, by simpa using k3, by simpa [encs] using hL⟩⟩
  exact Kd.R_of_own (h1 := fun _ => rfl) ho (fun _ _ => trivial)
set_option maxHeartbeats 1000000 in
set_option maxRecDepth 100000 in
theorem slices_Repeat_string_string.calls (A0 : Option Addr) (c0 : Nat) (l0 : List ByteArray) (a1 : Int) (r : List ByteArray) (w : World) (hr0 : Kd.C Kd.string w A0 l0.length l0) (hc0 : l0.length ≤ c0) (h : slices_Repeat_string_string.f l0 a1 = some r) :
    Calls Try.prog 22 #[.slice A0 l0.length c0, .int .i64 a1] w fun e w' => ∃ v0_ : Value, e = .returned v0_ ∧ Kd.R Kd.string 9 w' w.heap.size (fun _ => True) v0_ r ∧ Below w.heap.size w w' := by
  unfold slices_Repeat_string_string.f at h
  by_cases hc : l0.length = 1 ∧ 1 ≤ a1 ∧ a1 ≤ 1000
  rotate_left
  · rw [if_neg hc] at h
    cases h
  rw [if_pos hc] at h
  obtain rfl := Option.some.inj h
  clear h
  obtain ⟨h1, h2, h3⟩ := hc
  obtain ⟨c, rfl⟩ : ∃ c : Nat, a1 = (c : Int) := ⟨a1.toNat, by omega⟩
  rw [Int.toNat_natCast]
  obtain ⟨x, rfl⟩ : ∃ x, l0 = [x] := List.length_eq_one_iff.1 h1
  obtain ⟨ad, cc, rfl, _, hK, hcc⟩ := Kd.C_get hr0 x 0 (by omega) (by simp)
  have hx0 : w.cell? (ad.add 0) = some (.string x) := by
    obtain rfl := hK
    exact hcc 0 _ rfl
  have HX := Aside0.mk hx0
  have HM := Aside0.mk (slices_Repeat_string_string.muln c (by omega))
  have HC := Aside0.mk (show 1 ≤ c ∧ c ≤ 1000 by omega)
  have hc1 : decide ((c : Int) < 0) = false := decide_eq_false (by omega)
  have hc2 : decide ((9223372036854775807 : Int) < (c : Int)) = false := decide_eq_false (by omega)
  have hcw : IntKind.u64.wrap (c : Int) = (c : Int) := by simp [IntKind.wrap, IntKind.signed, IntKind.bits]; omega
  have hcv : wrap64 (c : Int) = (c : Int) := by unfold wrap64; omega
  have hci : IntKind.i64.wrap (c : Int) = (c : Int) := by simp [IntKind.wrap, IntKind.signed, IntKind.bits]; omega
  clear hr0 hcc hK hx0 h1 h2 h3
  have HB := Aside0.mk (Below.refl w.heap.size w)
  have hsz : (Try.prog.info? 9).map (·.size) = some 1 := by kernel_rfl
  show Calls _ _ #[.slice (some ad) 1 c0, .int .i64 c] _ _
  go_enter Try.func22, Try.ntmps22
  go_wp2_with (first
    | (go_at_call 44; (with_reducible refine (bits_Mul.calls 1 (c : Int) 0 (c : Int) _ HM.out).mono ?_); rintro e w' ⟨rfl, ⟨nd, rfl⟩⟩)
    | ((with_reducible refine gate_dst (N := 30) rfl ?_); refine Kd.R_make Kd.string _ 9 rfl (N := 30) rfl 22 _ _ rfl (c : Int) rfl rfl Try.underlying22 (.string ⟨#[]⟩) 16 info9 rfl (by decide) (by omega) (⟨#[]⟩ : ByteArray) (ok := fun _ => True) (okp := fun _ => True) rfl (fun _ hk => hk) trivial (by omega) (by have := HC.out; rw [Int.toNat_natCast]; omega) (Below.refl _ _) (Nat.le_refl _) ?_; intro v104 w4 ho5 hb hg_ hnew_; clear hg_ hnew_; rw [Int.toNat_natCast] at ho5; obtain ⟨g, cap, L, rfl, hbase, hL, k1, k2, k3⟩ := slices_Repeat_string_string.made HC.out.1 ho5; have HB2 := Aside0.mk (below_step (pw_below_drewN HB.out nd) hb); have HG := Aside0.mk hL; have HE := Aside0.mk (Nat.le_trans (below_size (pw_below_drewN HB.out nd)) hbase); have HK := Aside0.mk (show c ≤ cap ∧ cap ≤ maxLen ∧ L.length = cap from ⟨k1, k2, k3⟩); have HX4 := Aside0.mk ((HB2.out.cell (World.block_lt_of_cell? w _ HX.out)).trans HX.out); clear ho5 hb hL k1 k2 k3 hbase)
    | ((with_reducible refine gate_dst (N := 33) rfl ?_); refine wpList_copy_splice rfl (.tmp 31) (.tmp 32) 22 22 rfl 9 Try.underlying22 (by kernel_rfl) _ _ _ _ _ _ rfl rfl g 0 L 9 HG.out [.string x] (by have := HC.out; show 1 = min 1 c; omega) (fun _ => ⟨rfl, ad, rfl, fun j v hj => by cases j with | zero => (cases hj; exact HX4.out) | succ j => cases hj⟩) (by have := HK.out; have := HC.out; simp only [List.length_cons, List.length_nil]; omega) (fun v hv => by simp only [List.mem_singleton] at hv; subst hv; rfl) w.heap.size w HB2.out HE.out ?_; intro w5 HG5 HB5_; have HB5 := Aside0.mk HB5_; clear HB5_))
  obtain ⟨L1, hL1⟩ : ∃ L1, L1 = splice L 0 [Value.string x] := ⟨_, rfl⟩
  have HQ : Aside0 (L1.length = cap ∧ L1.take 1 = List.replicate 1 (.string x)) := ⟨by
    have := HK.out
    have := HC.out
    rw [hL1]
    refine ⟨?_, ?_⟩
    · rw [length_splice _ _ _ (by simp only [List.length_cons, List.length_nil]; omega)]
      omega
    · simp [splice]⟩
  rw [← hL1] at HG5
  have HG1 := Aside0.mk HG5.out
  clear HG5 hL1 HG HX4 HB2 HB HX hc0
  go_loopg [8] c (fun kq v8 w' => ∃ (m : Nat) (M : List Value), v8 = .int .i64 (m : Int) ∧ Aside0 (1 ≤ m ∧ m ≤ c ∧ c < m + kq) ∧ Aside0 (M.length = cap ∧ M.take m = List.replicate m (.string x)) ∧ Aside0 (w'.heap[g]? = some (.cells M.toArray 9 (0, 0))) ∧ Aside0 (Below w.heap.size w w'))
  case atStart => exact ⟨1, L1, rfl, ⟨by have := HC.out; omega⟩, HQ, HG1, HB5⟩
  case round =>
    clear HQ HG1 HB5
    obtain ⟨m, M, rfl, HI, HQ, HG, HB⟩ := hrel
    cases gk with
    | zero => exact absurd HI.out (by omega)
    | succ k1 =>
      by_cases hm : m < c
      · have hm1 : decide ((m : Int) < (c : Int)) = true := decide_eq_true (by omega)
        obtain ⟨d, hd⟩ : ∃ d, d = min m (c - m) := ⟨_, rfl⟩
        have HD := Aside0.mk (show d = Nat.min m (c - m) from hd)
        clear hd
        have hm2 : (0 : Int) ≤ (m : Int) := by omega
        have hm3 : m ≤ c := by omega
        have hm4 : m ≤ cap := by have := HK.out; omega
        have hm5 : (m : Int) ≤ (cap : Int) := by omega
        have hm6 : (m : Int) ≤ (c : Int) := by omega
        have hm7 : c ≤ cap := HK.out.1
        have hm8 : (c : Int) ≤ (cap : Int) := by omega
        have hm9 : m ≠ cap := by omega
        have hm10 : ¬ cap = m := by omega
        have hmd : d ≤ m ∧ m + d ≤ c ∧ 1 ≤ d := by have : d = min m (c - m) := HD.out; have := HI.out; omega
        have hwd : IntKind.i64.wrap ((m : Int) + (d : Int)) = ((m + d : Nat) : Int) := by have := HC.out; simp [IntKind.wrap, IntKind.signed, IntKind.bits]; omega
        go_wp2
        go_region_law (refine step_copy_splice rfl (.tmp 41) (.tmp 44) 22 22 rfl 9 Try.underlying22 hsz (some ⟨g, m, none⟩) (some ⟨g, 0, none⟩) (c - m) (cap - m) m cap (by simp [Act.eval, Act.put, hm10]) (by simp [Act.eval, Act.put]) g m M 9 HG.out (List.replicate d (.string x)) ?ln ?pos ?fit ?one w.heap.size w (below_drew1 HB.out) HE.out ?_; (case ln => rw [List.length_replicate]; exact HD.out); (case pos => exact fun _ => ⟨rfl, _, rfl, fun j v hj => slices_Repeat_string_string.read (x := .string x) HG.out HQ.out.2 hmd.1 hj⟩); (case fit => rw [List.length_replicate]; have := HQ.out.1; omega); (case one => intro v hv; rw [(List.mem_replicate.1 hv).2]; rfl); intro w6 hg6 hb6)
        go_wp2
        go_roundg k1
        case measure => omega
        case rel => exact ⟨m + d, splice M m (List.replicate d (.string x)), by first | rfl | rw [hwd] | (congr 1), ⟨by have := HI.out; omega⟩, ⟨by rw [length_splice _ _ _ (by rw [List.length_replicate]; have := HQ.out.1; omega)]; exact HQ.out.1, slices_Repeat_string_string.splice_fill _ _ _ _ c HQ.out.2 (by have := HQ.out.1; omega)⟩, ⟨hg6.out⟩, ⟨hb6⟩⟩
      · have hm1 : decide ((m : Int) < (c : Int)) = false := decide_eq_false (by omega)
        obtain rfl : m = c := by have := HI.out; omega
        go_wp2
        go_ret
        exact ⟨_, rfl, slices_Repeat_string_string.done HG.out HE.out HK.out.1 HK.out.2.1 HQ.out.1 HQ.out.2, HB.out⟩

end Go.Proofs.Ytnbhpoajbplfkaa.XW
