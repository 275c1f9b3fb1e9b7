/- The program's release, of a space in hand: a walk. -/
import Derived.Test.YtcnkacbgcmnokaaReleR
import Derived.Test.YtcnkacbgcmnokaaDeleR
namespace Go.Proofs.Ytcnkacbgcmnokaa.XR.Rels
open Go Go.RowKit Go.Proofs.YtcnkacbgcmnokaaW.PrintWords Go.Proofs.YtcnkacbgcmnokaaW.PrintLast Go.Proofs.YtcnkacbgcmnokaaW.PrintMore Go.Proofs.Ytcnkacbgcmnokaa.XR Go.Proofs.Ytcnkacbgcmnokaa.XR.Room Go.Proofs.Ytcnkacbgcmnokaa.XR.Rele
set_option linter.unusedVariables false
set_option linter.unusedSimpArgs false
/-- What is left. -/
def left (E : Int) (held : List S74) (pins : List Int) : List S74 := held.filter fun x => !q E pins x
theorem pre {b gb : Nat} {w : World} {T E : Int} {vn vp : Value} {A : Option Addr} {c : Nat} {now : List Int} {held : List S74} {pins : List Int} (hb : b ≤ w.heap.size) (o : Own b gb w T E vn (.slice A held.length c) vp now held pins) :
    ∀ V, Below (w.alloc (.cells #[.pointer (some ⟨gb, 0, none⟩)] 86)).heap.size (w.alloc (.cells #[.pointer (some ⟨gb, 0, none⟩)] 86)) V →
      Calls Try.prog 71 #[.slice A held.length c, .func (.func 72) #[] #[.pointer (some ⟨w.heap.size, 0, none⟩)]] V fun e V' => e = .returned (.slice A (left E held pins).length c) ∧ V'.cell? ⟨w.heap.size, 0, none⟩ = some (.pointer (some ⟨gb, 0, none⟩)) ∧ V'.cell? ⟨gb, 3, none⟩ = some (.slice A held.length c) ∧ V'.frozen? ⟨gb, 3, none⟩ = false ∧
        ∀ V2, Below V'.heap.size V' V2 → St w b gb vn (.slice A held.length c) vp (V2.setCell ⟨gb, 3, none⟩ (.slice A (left E held pins).length c)) T E vn (.slice A (left E held pins).length c) vp now (left E held pins) pins := by
  intro V hV
  have BA := below_alloc (Below.refl w.heap.size w) (.cells #[.pointer (some ⟨gb, 0, none⟩)] 86)
  have hbb := blk_below (blk_new w (.cells #[.pointer (some ⟨gb, 0, none⟩)] 86)) hV
  have hWV : Below w.heap.size w V := BA.trans (hV.mono BA.size)
  have S := (St.start o).below hb hWV
  obtain ⟨Ap, cp, ep⟩ := Kd.R_slice o.r.p
  subst ep
  have hbV : b ≤ V.heap.size := Nat.le_trans hb hWV.size
  have hd := Dele.del (q E pins) 72 #[.pointer (some ⟨w.heap.size, 0, none⟩)] b A c held V (fun args w => by kernel_rfl) (fun V1 x hk => by
    have h1 := (hk.2 w.heap.size (blk_lt hbb) (Kd.R_ne S.o.r.h hbb (by decide))).trans hbb
    have h2 := (hk.2 gb (blk_lt S.o.box) (Kd.R_ne S.o.r.h S.o.box (by decide))).trans S.o.box
    have h3 : (Kd.int .i64).R 3 V1 b (fun _ => True) (.slice Ap pins.length cp) pins := by
      refine Kd.R_mono (Kd.R_step (Kd.R_tight rfl S.o.r.p) (fun k hk' hl => hk.2 k hl (fun e => ?_))) (fun k _ => trivial)
      obtain ⟨cells, hc⟩ := Kd.R_typed S.o.r.p k hk'.symm
      exact Kd.R_ne S.o.r.h hc (by decide) e
    exact c72 w.heap.size gb cp T E vn _ Ap pins x V1 h1 h2 (Kd.R_reads' h3).2.2) hbV S.o.r.h
  refine hd.mono ?_
  rintro e V' ⟨rfl, hr, hB, hK⟩
  have hbx := (hK.2 gb (blk_lt S.o.box) (Kd.R_ne S.o.r.h S.o.box (by decide))).trans S.o.box
  have hb2 := (hK.2 w.heap.size (blk_lt hbb) (Kd.R_ne S.o.r.h hbb (by decide))).trans hbb
  refine ⟨rfl, (blk_cell hb2 0).trans rfl, (blk_cell hbx 3).trans rfl, blk_frozen hbx 3, fun V2 h2 => ?_⟩
  refine S.toHeld (Kd.R_below hr h2) (hB.trans (h2.mono (Nat.le_trans hbV hB.size))) (hK.below h2) (fun k hk => .inl ?_)
  cases A with
  | none => exact hk
  | some a => exact hk
set_option maxHeartbeats 4000000 in
set_option maxRecDepth 100000 in
theorem rel (b gb : Nat) (w : World) (T E : Int) (vn vh vp : Value) (now : List Int) (held : List S74) (pins : List Int) (hb : b ≤ w.heap.size) (o : Own b gb w T E vn vh vp now held pins) :
    Calls Try.prog 62 #[.pointer (some ⟨gb, 0, none⟩)] w fun e w' => e = .returned (.tuple #[]) ∧ ∃ vh', St w b gb vn vh vp w' T E vn vh' vp now (left E held pins) pins := by
  obtain ⟨A, c, rfl⟩ := Kd.R_slice o.r.h
  have hu31 := Try.underlying31
  have hmf : ∀ (fn : Fn) (first cap : Array Value) (w : World), (Instr.makeFunc fn first cap).run Try.prog w = .ok (.func fn first cap) w := fun _ _ _ _ => rfl
  have HH := Aside0.mk (pre hb o)
  have BA := below_alloc (Below.refl w.heap.size w) (.cells #[.pointer (some ⟨gb, 0, none⟩)] 86)
  have hz0 := (blk_cell (blk_new w (.cells #[.pointer (some ⟨gb, 0, none⟩)] 86)) 0).trans (rfl : _ = some (Value.pointer (some ⟨gb, 0, none⟩)))
  have hz3 := (blk_cell (blk_below o.box BA) 3).trans (rfl : _ = some (Value.slice A held.length c))
  clear BA
  generalize left E held pins = hl at HH ⊢
  clear o
  go_enter Try.func62, Try.ntmps62
  go_wp2
  go_region_with (go_at_call 71; (with_reducible refine (HH.out _ ?al).mono ?_); (case al => repeat (first | exact Below.refl _ _ | apply pw_below_drewN | apply below_drew1)); rintro e V' ⟨rfl, hz5, hz4, hf4, hs⟩; have HS := Aside0.mk hs; clear hs)
  all_goals (refine bodyPost_end (v := .tuple #[]) (by kernel_rfl) rfl ?_; exact ⟨rfl, _, HS.out _ (by repeat (first | exact Below.refl _ _ | apply pw_below_drewN | apply below_drew1))⟩)
end Go.Proofs.Ytcnkacbgcmnokaa.XR.Rels
