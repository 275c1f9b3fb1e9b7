/- The reference's commit: a walk. -/
import Derived.Test.YtcnkacbgcmnokaaSrelR
import Derived.Test.YtcnkacbgcmnokaaActfR
import Derived.Test.YtcnkacbgcmnokaaXR6
import Derived.Test.YtcnkacbgcmnokaaXR8
import Derived.Deep.RegionLaw
namespace Go.Proofs.Ytcnkacbgcmnokaa.XR.Scom
open Go Go.RowKit Go.Proofs.YtcnkacbgcmnokaaW.PrintWords Go.Proofs.YtcnkacbgcmnokaaW.PrintLast Go.Proofs.YtcnkacbgcmnokaaW.PrintMore Go.Proofs.Ytcnkacbgcmnokaa.XR Go.Proofs.Ytcnkacbgcmnokaa.XR.Room Go.Proofs.Ytcnkacbgcmnokaa.XR.Srel Go.Proofs.Ytcnkacbgcmnokaa.XR.Act
set_option linter.unusedVariables false
set_option linter.unusedSimpArgs false
attribute [local go_sem] Go.Proofs.Ytcnkacbgcmnokaa.Xtra.binOp_gtr Go.Proofs.Ytcnkacbgcmnokaa.Xtra.binOp_leq Go.Proofs.Ytcnkacbgcmnokaa.Xtra.binOp_geq
/-- The two rows in one, by their pages. -/
def mg (E : Int) : Nat → List S74 → List Int → List S74
  | 0, _, _ => []
  | d + 1, [], [] => []
  | d + 1, [], x :: xs => pg E x :: mg E d [] xs
  | d + 1, h :: hs, [] => h :: mg E d hs []
  | d + 1, h :: hs, x :: xs => if x < h.f0 then pg E x :: mg E d (h :: hs) xs else h :: mg E d hs (x :: xs)
/-- What a call has to hand back. -/
structure Ret (b : Nat) (w : World) (T : Int) (o : Out) (e : Ending) (w' : World) : Prop where
  ex : ∃ vn vh vp vr : Value, e = .returned (.tuple #[.agg #[.int .i64 T, .int .i64 o.E, vn, vh, vp], .agg #[.int .i64 o.code, vr]]) ∧ Trio b w' vn vh vp o.now o.held o.pins ∧ (Kd.int .i64).R 3 w' w.heap.size (fun _ => True) vr o.pages ∧ Below w.heap.size w w'
theorem freeS {b : Nat} {W : World} {An Ah Ap : Option Addr} {cn ch cp : Nat} {now : List Int} {held : List S74} {pins : List Int} (k : Nat) (T E : Int) (t : Trio b W (.slice An now.length cn) (.slice Ah held.length ch) (.slice Ap pins.length cp) now held pins) (fr : List Int) (hf : spec_l04Free.f k T E now held pins = some fr) :
    Calls Try.prog 65 #[.agg #[.int .i64 T, .int .i64 E, .slice An now.length cn, .slice Ah held.length ch, .slice Ap pins.length cp]] W fun e w' => ∃ v0_ : Value, e = .returned (v0_) ∧ Kd.R (Kd.int .i64) 3 w' W.heap.size (fun _ => True) v0_ fr ∧ Below W.heap.size W w' :=
  spec_l04Free.calls k T E An cn now Ah ch held Ap cp pins fr W (Kd.R_reads' t.n).2.2 (Kd.R_reads' t.n).2.1 (Kd.R_reads' t.h).2.2 (Kd.R_reads' t.h).2.1 (Kd.R_reads' t.p).2.2 (Kd.R_reads' t.p).2.1 hf
set_option maxHeartbeats 4000000 in
set_option maxRecDepth 100000 in
theorem range (k b : Nat) (w : World) (T E : Int) (vn vh vp : Value) (now : List Int) (held : List S74) (pins : List Int) (n : Int) (fr : List Int) (hb : b ≤ w.heap.size) (t : Trio b w vn vh vp now held pins) (hf : spec_l04Free.f k T E now held pins = some fr) (h2 : spec_l01In.f n 0 64 = some false) :
    Calls Try.prog 45 #[.agg #[.int .i64 T, .int .i64 E, vn, vh, vp], .int .i64 n] w (Ret b w T ⟨E, now, held, pins, 4, []⟩) := by
  obtain ⟨An, cn, rfl⟩ := Kd.R_slice t.n
  obtain ⟨Ah, ch, rfl⟩ := Kd.R_slice t.h
  obtain ⟨Ap, cp, rfl⟩ := Kd.R_slice t.p
  have hu31 := Try.underlying31
  have hu33 := Try.underlying33
  have hu74 := Try.underlying74
  have HT := Aside0.mk t
  have HF := Aside0.mk hf
  have HW := Aside0.mk h2
  have HBW := Aside0.mk hb
  have C0 := Aside0.mk (Cb.start w #[.int .i64 T, .int .i64 E, .slice An now.length cn, .slice Ah held.length ch, .slice Ap pins.length cp])
  clear t hf h2
  go_enter Try.func45, Try.ntmps45
  go_upto_region 1 with (fail)
  generalize ((w.alloc (.cells #[.int .i64 T, .int .i64 E, .slice An now.length cn, .slice Ah held.length ch, .slice Ap pins.length cp] 31)).alloc (.cells #[.int .i64 0, .int .i64 0, .slice none 0 0, .slice none 0 0, .slice none 0 0] 31)).alloc (.cells #[.int .i64 0, .slice none 0 0] 33) = W1 at C0 ⊢
  generalize w.heap.size + 1 + 1 = g5 at C0 ⊢
  generalize w.heap.size + 1 = g4 at C0 ⊢
  obtain ⟨gs, hgs⟩ : ∃ gs, gs = w.heap.size := ⟨_, rfl⟩
  have C0' : Aside0 (Cb w #[.int .i64 T, .int .i64 E, .slice An now.length cn, .slice Ah held.length ch, .slice Ap pins.length cp] gs g4 g5 W1) := ⟨by rw [hgs]; exact C0.out⟩
  rw [show (Value.pointer (some ⟨w.heap.size, 0, none⟩)) = .pointer (some ⟨gs, 0, none⟩) by rw [hgs]]
  clear C0 hgs
  have hs0 := (blk_cell C0'.out.s 0).trans (rfl : _ = some (Value.int .i64 T))
  have hs1 := (blk_cell C0'.out.s 1).trans (rfl : _ = some (Value.int .i64 E))
  have hs2 := (blk_cell C0'.out.s 2).trans (rfl : _ = some (Value.slice An now.length cn))
  have hs3 := (blk_cell C0'.out.s 3).trans (rfl : _ = some (Value.slice Ah held.length ch))
  have hs4 := (blk_cell C0'.out.s 4).trans (rfl : _ = some (Value.slice Ap pins.length cp))
  go_upto_region 3 with (first
    | (go_at_call 65; (with_reducible refine (freeS k T E (HT.out.below C0'.out.d) fr HF.out).mono ?_); rintro e w2 ⟨vf, rfl, hr, hB⟩; obtain ⟨Af, cf, ef⟩ := Kd.R_slice hr; subst ef; have C1 := Aside0.mk (C0'.out.below hB); have FR1 := Aside0.mk hr; have L1 := Aside0.mk C0'.out.d.size; clear hr hB hs0 hs1 hs2 hs3 hs4)
    | (go_at_call 44; (with_reducible refine (spec_l01In.calls n 0 64 _ _ HW.out).mono ?_); rintro e w3 ⟨rfl, hd⟩; have C2 := Aside0.mk (C1.out.below hd.below); have FR2 := Aside0.mk (Kd.R_lower (Kd.R_below FR1.out hd.below) L1.out); clear hd C1 FR1))
  have hs0 := (blk_cell C2.out.s 0).trans (rfl : _ = some (Value.int .i64 T))
  have hs1 := (blk_cell C2.out.s 1).trans (rfl : _ = some (Value.int .i64 E))
  have hs2 := (blk_cell C2.out.s 2).trans (rfl : _ = some (Value.slice An now.length cn))
  have hs3 := (blk_cell C2.out.s 3).trans (rfl : _ = some (Value.slice Ah held.length ch))
  have hs4 := (blk_cell C2.out.s 4).trans (rfl : _ = some (Value.slice Ap pins.length cp))
  have C3 := Aside0.mk (C2.out.below (below_alloc (Below.refl _ _) (.cells #[] 3)))
  have hy0 := (blk_cell C3.out.r4 0).trans (rfl : _ = some (Value.int .i64 0))
  have hy1 := (blk_cell C3.out.r4 1).trans (rfl : _ = some (Value.int .i64 0))
  have hy2 := (blk_cell C3.out.r4 2).trans (rfl : _ = some (Value.slice none 0 0))
  have hy3 := (blk_cell C3.out.r4 3).trans (rfl : _ = some (Value.slice none 0 0))
  have hy4 := (blk_cell C3.out.r4 4).trans (rfl : _ = some (Value.slice none 0 0))
  have hx0 := (blk_cell C3.out.r5 0).trans (rfl : _ = some (Value.int .i64 0))
  have hx1 := (blk_cell C3.out.r5 1).trans (rfl : _ = some (Value.slice none 0 0))
  have hn45 : ¬ g4 = g5 := C3.out.n45
  have hn54 : ¬ g5 = g4 := fun e => C3.out.n45 e.symm
  have hfy := blk_frozen C3.out.r4
  have hfx := blk_frozen C3.out.r5
  go_wp2
  obtain ⟨t1, t2, t3, t4, t5⟩ := C3.out.told T E 4 (.slice An now.length cn) (.slice Ah held.length ch) (.slice Ap pins.length cp) (.slice (some ⟨w3.heap.size, 0, none⟩) 0 0)
  refine bodyPost_ret (results_cc rfl _ _ g4 g5 31 33 #[.int .i64 T, .int .i64 E, .slice An now.length cn, .slice Ah held.length ch, .slice Ap pins.length cp] #[.int .i64 4, .slice (some ⟨w3.heap.size, 0, none⟩) 0 0] (0, 0) (0, 0) _ _ rfl t1 Try.underlying31 rfl (by kernel_rfl) rfl t2 Try.underlying33 rfl (by kernel_rfl)) rfl ?_
  exact ⟨⟨_, _, _, _, rfl, HT.out.below t3, t5 (Room.empty (Kd.int .i64) 3 _ _ _ _ (blk_new w3 (.cells #[] 3)) C2.out.d.size trivial), t3⟩⟩
set_option maxHeartbeats 4000000 in
set_option maxRecDepth 100000 in
theorem full (k b : Nat) (w : World) (T E : Int) (vn vh vp : Value) (now : List Int) (held : List S74) (pins : List Int) (n : Int) (fr : List Int) (hb : b ≤ w.heap.size) (t : Trio b w vn vh vp now held pins) (hf : spec_l04Free.f k T E now held pins = some fr) (h2 : spec_l01In.f n 0 64 = some true) (h3 : (fr.length : Int) < n ∨ E = 1000000) :
    Calls Try.prog 45 #[.agg #[.int .i64 T, .int .i64 E, vn, vh, vp], .int .i64 n] w (Ret b w T ⟨E, now, held, pins, 7, []⟩) := by
  obtain ⟨An, cn, rfl⟩ := Kd.R_slice t.n
  obtain ⟨Ah, ch, rfl⟩ := Kd.R_slice t.h
  obtain ⟨Ap, cp, rfl⟩ := Kd.R_slice t.p
  have hu31 := Try.underlying31
  have hu33 := Try.underlying33
  have hu74 := Try.underlying74
  have HT := Aside0.mk t
  have HF := Aside0.mk hf
  have HW := Aside0.mk h2
  have HBW := Aside0.mk hb
  have C0 := Aside0.mk (Cb.start w #[.int .i64 T, .int .i64 E, .slice An now.length cn, .slice Ah held.length ch, .slice Ap pins.length cp])
  clear t hf h2
  have H3 := Aside0.mk h3
  clear h3
  go_enter Try.func45, Try.ntmps45
  go_upto_region 1 with (fail)
  generalize ((w.alloc (.cells #[.int .i64 T, .int .i64 E, .slice An now.length cn, .slice Ah held.length ch, .slice Ap pins.length cp] 31)).alloc (.cells #[.int .i64 0, .int .i64 0, .slice none 0 0, .slice none 0 0, .slice none 0 0] 31)).alloc (.cells #[.int .i64 0, .slice none 0 0] 33) = W1 at C0 ⊢
  generalize w.heap.size + 1 + 1 = g5 at C0 ⊢
  generalize w.heap.size + 1 = g4 at C0 ⊢
  obtain ⟨gs, hgs⟩ : ∃ gs, gs = w.heap.size := ⟨_, rfl⟩
  have C0' : Aside0 (Cb w #[.int .i64 T, .int .i64 E, .slice An now.length cn, .slice Ah held.length ch, .slice Ap pins.length cp] gs g4 g5 W1) := ⟨by rw [hgs]; exact C0.out⟩
  rw [show (Value.pointer (some ⟨w.heap.size, 0, none⟩)) = .pointer (some ⟨gs, 0, none⟩) by rw [hgs]]
  clear C0 hgs
  have hs0 := (blk_cell C0'.out.s 0).trans (rfl : _ = some (Value.int .i64 T))
  have hs1 := (blk_cell C0'.out.s 1).trans (rfl : _ = some (Value.int .i64 E))
  have hs2 := (blk_cell C0'.out.s 2).trans (rfl : _ = some (Value.slice An now.length cn))
  have hs3 := (blk_cell C0'.out.s 3).trans (rfl : _ = some (Value.slice Ah held.length ch))
  have hs4 := (blk_cell C0'.out.s 4).trans (rfl : _ = some (Value.slice Ap pins.length cp))
  go_upto_region 4 with (first
    | (go_at_call 65; (with_reducible refine (freeS k T E (HT.out.below C0'.out.d) fr HF.out).mono ?_); rintro e w2 ⟨vf, rfl, hr, hB⟩; obtain ⟨Af, cf, ef⟩ := Kd.R_slice hr; subst ef; have C1 := Aside0.mk (C0'.out.below hB); have FR1 := Aside0.mk hr; have L1 := Aside0.mk C0'.out.d.size; clear hr hB hs0 hs1 hs2 hs3 hs4)
    | (go_at_call 44; (with_reducible refine (spec_l01In.calls n 0 64 _ _ HW.out).mono ?_); rintro e w3 ⟨rfl, hd⟩; have C2 := Aside0.mk (C1.out.below hd.below); have FR2 := Aside0.mk (Kd.R_lower (Kd.R_below FR1.out hd.below) L1.out); clear hd C1 FR1))
  have hs0 := (blk_cell C2.out.s 0).trans (rfl : _ = some (Value.int .i64 T))
  have hs1 := (blk_cell C2.out.s 1).trans (rfl : _ = some (Value.int .i64 E))
  have hs2 := (blk_cell C2.out.s 2).trans (rfl : _ = some (Value.slice An now.length cn))
  have hs3 := (blk_cell C2.out.s 3).trans (rfl : _ = some (Value.slice Ah held.length ch))
  have hs4 := (blk_cell C2.out.s 4).trans (rfl : _ = some (Value.slice Ap pins.length cp))
  by_cases h4 : (fr.length : Int) < n
  · have c4 : decide ((fr.length : Int) < n) = true := decide_eq_true h4
    clear h4
    have C3 := Aside0.mk (C2.out.below (below_alloc (Below.refl _ _) (.cells #[] 3)))
    have hy0 := (blk_cell C3.out.r4 0).trans (rfl : _ = some (Value.int .i64 0))
    have hy1 := (blk_cell C3.out.r4 1).trans (rfl : _ = some (Value.int .i64 0))
    have hy2 := (blk_cell C3.out.r4 2).trans (rfl : _ = some (Value.slice none 0 0))
    have hy3 := (blk_cell C3.out.r4 3).trans (rfl : _ = some (Value.slice none 0 0))
    have hy4 := (blk_cell C3.out.r4 4).trans (rfl : _ = some (Value.slice none 0 0))
    have hx0 := (blk_cell C3.out.r5 0).trans (rfl : _ = some (Value.int .i64 0))
    have hx1 := (blk_cell C3.out.r5 1).trans (rfl : _ = some (Value.slice none 0 0))
    have hn45 : ¬ g4 = g5 := C3.out.n45
    have hn54 : ¬ g5 = g4 := fun e => C3.out.n45 e.symm
    have hfy := blk_frozen C3.out.r4
    have hfx := blk_frozen C3.out.r5
    go_wp2
    obtain ⟨t1, t2, t3, t4, t5⟩ := C3.out.told T E 7 (.slice An now.length cn) (.slice Ah held.length ch) (.slice Ap pins.length cp) (.slice (some ⟨w3.heap.size, 0, none⟩) 0 0)
    refine bodyPost_ret (results_cc rfl _ _ g4 g5 31 33 #[.int .i64 T, .int .i64 E, .slice An now.length cn, .slice Ah held.length ch, .slice Ap pins.length cp] #[.int .i64 7, .slice (some ⟨w3.heap.size, 0, none⟩) 0 0] (0, 0) (0, 0) _ _ rfl t1 Try.underlying31 rfl (by kernel_rfl) rfl t2 Try.underlying33 rfl (by kernel_rfl)) rfl ?_
    exact ⟨⟨_, _, _, _, rfl, HT.out.below t3, t5 (Room.empty (Kd.int .i64) 3 _ _ _ _ (blk_new w3 (.cells #[] 3)) C2.out.d.size trivial), t3⟩⟩
  · have c4 : decide ((fr.length : Int) < n) = false := decide_eq_false h4
    have c5 : (E == 1000000) = true := by simpa using H3.out.resolve_left h4
    clear h4
    have C3 := Aside0.mk (C2.out.below (below_alloc (Below.refl _ _) (.cells #[] 3)))
    have hy0 := (blk_cell C3.out.r4 0).trans (rfl : _ = some (Value.int .i64 0))
    have hy1 := (blk_cell C3.out.r4 1).trans (rfl : _ = some (Value.int .i64 0))
    have hy2 := (blk_cell C3.out.r4 2).trans (rfl : _ = some (Value.slice none 0 0))
    have hy3 := (blk_cell C3.out.r4 3).trans (rfl : _ = some (Value.slice none 0 0))
    have hy4 := (blk_cell C3.out.r4 4).trans (rfl : _ = some (Value.slice none 0 0))
    have hx0 := (blk_cell C3.out.r5 0).trans (rfl : _ = some (Value.int .i64 0))
    have hx1 := (blk_cell C3.out.r5 1).trans (rfl : _ = some (Value.slice none 0 0))
    have hn45 : ¬ g4 = g5 := C3.out.n45
    have hn54 : ¬ g5 = g4 := fun e => C3.out.n45 e.symm
    have hfy := blk_frozen C3.out.r4
    have hfx := blk_frozen C3.out.r5
    go_wp2
    obtain ⟨t1, t2, t3, t4, t5⟩ := C3.out.told T E 7 (.slice An now.length cn) (.slice Ah held.length ch) (.slice Ap pins.length cp) (.slice (some ⟨w3.heap.size, 0, none⟩) 0 0)
    refine bodyPost_ret (results_cc rfl _ _ g4 g5 31 33 #[.int .i64 T, .int .i64 E, .slice An now.length cn, .slice Ah held.length ch, .slice Ap pins.length cp] #[.int .i64 7, .slice (some ⟨w3.heap.size, 0, none⟩) 0 0] (0, 0) (0, 0) _ _ rfl t1 Try.underlying31 rfl (by kernel_rfl) rfl t2 Try.underlying33 rfl (by kernel_rfl)) rfl ?_
    exact ⟨⟨_, _, _, _, rfl, HT.out.below t3, t5 (Room.empty (Kd.int .i64) 3 _ _ _ _ (blk_new w3 (.cells #[] 3)) C2.out.d.size trivial), t3⟩⟩
end Go.Proofs.Ytcnkacbgcmnokaa.XR.Scom
