/- The program's release: the pages that are held for nobody go; a walk through the library's DeleteFunc and the closures. -/
import Derived.Test.YtcnkacbgcmnokaaAnyqR
import Derived.Test.YtcnkacbgcmnokaaRoomR
namespace Go.Proofs.Ytcnkacbgcmnokaa.XR.Rele
open Go Go.RowKit Go.Proofs.YtcnkacbgcmnokaaW.PrintWords Go.Proofs.YtcnkacbgcmnokaaW.PrintLast Go.Proofs.YtcnkacbgcmnokaaW.PrintMore Go.Proofs.Ytcnkacbgcmnokaa.XR Go.Proofs.Ytcnkacbgcmnokaa.XR.Room
set_option linter.unusedVariables false
set_option linter.unusedSimpArgs false
/-- What is let go. -/
def q (E : Int) (pins : List Int) (x : S74) : Bool := decide (x.f1 < wrap64 (E - 1)) && !(pins.any fun p => decide (x.f1 ≥ p))
set_option maxHeartbeats 1000000 in
theorem c73 (g : Nat) (x : S74) (p : Int) (W : World) (hb : W.heap[g]? = some (.cells #[.int .i64 x.f0, .int .i64 x.f1] 74 (0, 0))) :
    Calls Try.prog 73 #[.int .i64 p, .pointer (some ⟨g, 0, none⟩)] W fun e W' => e = .returned (.bool (decide (x.f1 ≥ p))) ∧ Below W.heap.size W W' := by
  have hu := Try.underlying74
  have hx1 : W.cell? ⟨g, 1, none⟩ = some (.int .i64 x.f1) := (blk_cell hb 1).trans rfl
  clear hb
  go_enter Try.func73, Try.ntmps73
  go_wp2
  go_ret
  exact ⟨rfl, Below.refl _ _⟩
set_option maxHeartbeats 2000000 in
theorem c72 (bb gb c : Nat) (T E : Int) (vn vh : Value) (A : Option Addr) (pins : List Int) (x : S74) (W : World) (hbb : W.heap[bb]? = some (.cells #[.pointer (some ⟨gb, 0, none⟩)] 86 (0, 0))) (hgb : W.heap[gb]? = some (.cells #[.int .i64 T, .int .i64 E, vn, vh, .slice A pins.length c] 31 (0, 0))) (hr : Kd.C (Kd.int .i64) W A pins.length pins) :
    Calls Try.prog 72 #[.agg #[.int .i64 x.f0, .int .i64 x.f1], .pointer (some ⟨bb, 0, none⟩)] W fun e W' => e = .returned (.bool (q E pins x)) ∧ Below W.heap.size W W' := by
  have hu := Try.underlying74
  have hu31 := Try.underlying31
  have hmf : ∀ (fn : Fn) (first cap : Array Value) (w : World), (Instr.makeFunc fn first cap).run Try.prog w = .ok (.func fn first cap) w := fun _ _ _ _ => rfl
  have BA := below_alloc (Below.refl W.heap.size W) (.cells #[.int .i64 x.f0, .int .i64 x.f1] 74)
  have hB := Aside0.mk (blk_new W (.cells #[.int .i64 x.f0, .int .i64 x.f1] 74))
  have hz0 := (blk_cell (blk_below hbb BA) 0).trans (rfl : _ = some (Value.pointer (some ⟨gb, 0, none⟩)))
  have hz1 := (blk_cell (blk_below hgb BA) 1).trans (rfl : _ = some (Value.int .i64 E))
  have hz4 := (blk_cell (blk_below hgb BA) 4).trans (rfl : _ = some (Value.slice A pins.length c))
  have hy0 := (blk_cell hB.out 0).trans (rfl : _ = some (Value.int .i64 x.f0))
  have hy1 := (blk_cell hB.out 1).trans (rfl : _ = some (Value.int .i64 x.f1))
  have HR := Aside0.mk (Kd.C_below hr BA)
  have D := Aside0.mk BA
  have hwe := i64_w (E - 1)
  clear hbb hgb hr BA
  unfold q
  by_cases c1 : x.f1 < wrap64 (E - 1)
  · have HH : Aside0 (∀ V, Below (W.alloc (.cells #[.int .i64 x.f0, .int .i64 x.f1] 74)).heap.size (W.alloc (.cells #[.int .i64 x.f0, .int .i64 x.f1] 74)) V → Calls Try.prog 51 #[.slice A pins.length c, .func (.func 73) #[] #[.pointer (some ⟨W.heap.size, 0, none⟩)]] V fun e w' => e = .returned (.bool (pins.any fun p => decide (x.f1 ≥ p))) ∧ Below W.heap.size W w') := ⟨fun V hV => by
      refine (impl_SpaceOKa_has (fun p => decide (x.f1 ≥ p)) 73 #[.pointer (some ⟨W.heap.size, 0, none⟩)] A c pins V (fun args w => by kernel_rfl) (fun W' p hB' => c73 _ x p W' (blk_below (blk_below hB.out hV) hB')) (Kd.C_below HR.out hV)).mono ?_
      rintro e w' ⟨rfl, hb⟩
      exact ⟨rfl, below_then D.out D.out.size (hV.trans (hb.mono hV.size))⟩⟩
    generalize (pins.any fun p => decide (x.f1 ≥ p)) = b at HH ⊢
    rw [decide_eq_true c1]
    have cc := decide_eq_true c1
    clear c1
    go_enter Try.func72, Try.ntmps72
    go_wp2
    go_cut [3] (fun s3 wx => s3 = .bool (true && !b) ∧ Aside0 (Below W.heap.size W wx))
    case first =>
      go_region_with (go_at_call 51; (with_reducible refine (HH.out _ ?al).mono ?_); (case al => repeat (first | exact Below.refl _ _ | apply pw_below_drewN | apply below_drew1)); rintro e w' ⟨rfl, hb⟩; have D2 := Aside0.mk hb; clear hb)
      all_goals (go_wp2_with fail; go_meet; exact ⟨by cases b <;> rfl, ⟨by repeat (first | exact D2.out | apply pw_below_drewN | apply below_drew1)⟩⟩)
    case rest =>
      obtain ⟨rfl, BX⟩ := hcut
      go_wp2
      go_ret
      exact ⟨rfl, BX.out⟩
  · rw [decide_eq_false c1]
    have cc := decide_eq_false c1
    clear c1
    go_enter Try.func72, Try.ntmps72
    go_wp2
    go_cut [3] (fun s3 wx => s3 = .bool false ∧ Aside0 (Below W.heap.size W wx))
    case first =>
      go_region_with fail
      all_goals (go_wp2_with fail; go_meet; exact ⟨rfl, ⟨by repeat (first | exact D.out | apply pw_below_drewN | apply below_drew1)⟩⟩)
    case rest =>
      obtain ⟨rfl, BX⟩ := hcut
      go_wp2
      go_ret
      exact ⟨rfl, BX.out⟩
end Go.Proofs.Ytcnkacbgcmnokaa.XR.Rele
