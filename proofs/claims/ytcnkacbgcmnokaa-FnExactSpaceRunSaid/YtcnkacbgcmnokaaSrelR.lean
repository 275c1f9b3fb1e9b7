/- The reference's copy of a space, and its release: walks. -/
import Derived.Test.YtcnkacbgcmnokaaDeleR
import Derived.Test.YtcnkacbgcmnokaaOwnlR
import Derived.Deep.RegionLaw
namespace Go.Proofs.Ytcnkacbgcmnokaa.XR.Srel
open Go Go.RowKit Go.Proofs.YtcnkacbgcmnokaaW.PrintWords Go.Proofs.YtcnkacbgcmnokaaW.PrintLast Go.Proofs.YtcnkacbgcmnokaaW.PrintMore Go.Proofs.Ytcnkacbgcmnokaa.XR Go.Proofs.Ytcnkacbgcmnokaa.XR.Room
set_option linter.unusedVariables false
set_option linter.unusedSimpArgs false
attribute [local go_sem] Go.Proofs.Ytcnkacbgcmnokaa.Xtra.binOp_gtr Go.Proofs.Ytcnkacbgcmnokaa.Xtra.binOp_leq Go.Proofs.Ytcnkacbgcmnokaa.Xtra.binOp_geq
theorem own_is (T E : Int) (now : List Int) (held : List S74) (pins : List Int) (h1 : now.length ≤ 4194304) (h2 : held.length ≤ 4194304) (h3 : pins.length ≤ 4194304) : spec_l04Own.f T E now held pins = some (T, E, now, held, pins) := by
  unfold spec_l04Own.f
  simp only [Option.bind_some, List.nil_append, List.length_nil, Nat.zero_add]
  rw [if_pos (by omega), if_pos (by omega), if_pos (by omega)]
theorem own {b : Nat} {W : World} {vn vh vp : Value} {now : List Int} {held : List S74} {pins : List Int} (T E : Int) (t : Trio b W vn vh vp now held pins) (h1 : now.length ≤ 4194304) (h2 : held.length ≤ 4194304) (h3 : pins.length ≤ 4194304) :
    Calls Try.prog 29 #[.agg #[.int .i64 T, .int .i64 E, vn, vh, vp]] W fun e w' => ∃ vn' vh' vp' : Value, e = .returned (.agg #[.int .i64 T, .int .i64 E, vn', vh', vp']) ∧ Trio W.heap.size w' vn' vh' vp' now held pins ∧ Below W.heap.size W w' := by
  obtain ⟨An, cn, rfl⟩ := Kd.R_slice t.n
  obtain ⟨Ah, ch, rfl⟩ := Kd.R_slice t.h
  obtain ⟨Ap, cp, rfl⟩ := Kd.R_slice t.p
  refine (spec_l04Own.calls T E An cn now Ah ch held Ap cp pins T E now held pins W (Kd.R_reads' t.n).2.2 (Kd.R_reads' t.n).2.1 (Kd.R_reads' t.h).2.2 (Kd.R_reads' t.h).2.1 (Kd.R_reads' t.p).2.2 (Kd.R_reads' t.p).2.1 (own_is T E now held pins h1 h2 h3)).mono ?_
  rintro e w' ⟨v2, v3, v4, rfl, r2, r3, r4, hB⟩
  exact ⟨v2, v3, v4, rfl, ⟨r2, r3, Kd.R_mono r4 (fun _ _ => trivial)⟩, hB⟩
/-- What is kept. -/
def kp (E : Int) (pins : List Int) (x : S74) : Bool := decide (x.f1 ≥ wrap64 (E - 1)) || pins.any fun p => decide (x.f1 ≥ p)
/-- A call's two boxes: the space that was handed in, the result. -/
structure Sb (w : World) (cs : Array Value) (gs g2 gb : Nat) (W : World) : Prop where
  s : W.heap[gs]? = some (.cells cs 31 (0, 0))
  r : W.heap[g2]? = some (.cells #[.int .i64 0, .int .i64 0, .slice none 0 0, .slice none 0 0, .slice none 0 0] 31 (0, 0))
  d : Below w.heap.size w W
  l2 : w.heap.size ≤ g2
  n1 : gs ≠ gb
  n2 : g2 ≠ gb
  lb : w.heap.size ≤ gb
section
variable {w W W' : World} {cs : Array Value} {gs g2 gb : Nat}
theorem Sb.below (x : Sb w cs gs g2 gb W) (h : Below W.heap.size W W') : Sb w cs gs g2 gb W' := ⟨blk_below x.s h, blk_below x.r h, x.d.trans (h.mono x.d.size), x.l2, x.n1, x.n2, x.lb⟩
theorem Sb.held {ok : Nat → Prop} {v : Value} {xs : List S74} (x : Sb w cs gs g2 gb W) (hr : k74.R 74 W w.heap.size ok v xs) (hB : Below w.heap.size W W') (hk : Kept W W' (fun k => some k = v.ownBlock)) (j : Nat) (u : Value) : Sb w cs gs g2 gb (W'.setCell ⟨gb, j, none⟩ u) :=
  ⟨blk_far ((hk.2 gs (blk_lt x.s) (Kd.R_ne hr x.s (by decide))).trans x.s) x.n1 _, blk_far ((hk.2 g2 (blk_lt x.r) (Kd.R_ne hr x.r (by decide))).trans x.r) x.n2 _, (x.d.trans hB).setCell (p := ⟨gb, j, none⟩) x.lb _, x.l2, x.n1, x.n2, x.lb⟩
theorem Sb.set (x : Sb w cs gs g2 gb W) (j : Nat) (u : Value) : Sb w cs gs g2 gb (W.setCell ⟨gb, j, none⟩ u) :=
  ⟨blk_far x.s x.n1 _, blk_far x.r x.n2 _, x.d.setCell (p := ⟨gb, j, none⟩) x.lb _, x.l2, x.n1, x.n2, x.lb⟩
end
theorem filter_more (f : S74 → Bool) (l : List S74) (i : Nat) (h : i < l.length) : (l.take (i + 1)).filter f = (l.take i).filter f ++ (if f (l.getD i z74) = true then [l.getD i z74] else []) := by
  rw [Dele.take1 l i h, List.filter_append, List.filter_cons, List.filter_nil]
theorem any_more (f : Int → Bool) (l : List Int) (i : Nat) (h : i < l.length) : (l.take (i + 1)).any f = ((l.take i).any f || f (l.getD i 0)) := by
  rw [List.take_succ_eq_append_getElem h, List.any_append, List.getD_eq_getElem?_getD, List.getElem?_eq_getElem h]
  simp
set_option maxHeartbeats 8000000 in
set_option maxRecDepth 100000 in
theorem rel (b : Nat) (w : World) (T E : Int) (vn vh vp : Value) (now : List Int) (held : List S74) (pins : List Int) (hb : b ≤ w.heap.size) (t : Trio b w vn vh vp now held pins) (h1 : now.length ≤ 4194304) (h2 : held.length ≤ 4194304) (h3 : pins.length ≤ 4194304) :
    Calls Try.prog 46 #[.agg #[.int .i64 T, .int .i64 E, vn, vh, vp]] w fun e w' => ∃ vn' vh' vp' : Value, e = .returned (.agg #[.int .i64 T, .int .i64 E, vn', vh', vp']) ∧ Trio w.heap.size w' vn' vh' vp' now (held.filter (kp E pins)) pins ∧ Below w.heap.size w w' := by
  obtain ⟨An, cn, rfl⟩ := Kd.R_slice t.n
  obtain ⟨Ah, ch, rfl⟩ := Kd.R_slice t.h
  obtain ⟨Ap, cp, rfl⟩ := Kd.R_slice t.p
  have hu31 := Try.underlying31
  have hu74 := Try.underlying74
  have HT := Aside0.mk t
  have H1 := Aside0.mk h1
  have H2 := Aside0.mk h2
  have H3 := Aside0.mk h3
  have HB0 := Aside0.mk hb
  have D1 : Aside0 (Below w.heap.size w ((w.alloc (.cells #[.int .i64 T, .int .i64 E, .slice An now.length cn, .slice Ah held.length ch, .slice Ap pins.length cp] 31)).alloc (.cells #[.int .i64 0, .int .i64 0, .slice none 0 0, .slice none 0 0, .slice none 0 0] 31))) := ⟨below_alloc (below_alloc (Below.refl _ _) _) _⟩
  have Y1 : Aside0 (((w.alloc (.cells #[.int .i64 T, .int .i64 E, .slice An now.length cn, .slice Ah held.length ch, .slice Ap pins.length cp] 31)).alloc (.cells #[.int .i64 0, .int .i64 0, .slice none 0 0, .slice none 0 0, .slice none 0 0] 31)).heap[w.heap.size]? = some (.cells #[.int .i64 T, .int .i64 E, .slice An now.length cn, .slice Ah held.length ch, .slice Ap pins.length cp] 31 (0, 0))) := ⟨blk_alloc (blk_new _ _) _⟩
  have Y2 : Aside0 (((w.alloc (.cells #[.int .i64 T, .int .i64 E, .slice An now.length cn, .slice Ah held.length ch, .slice Ap pins.length cp] 31)).alloc (.cells #[.int .i64 0, .int .i64 0, .slice none 0 0, .slice none 0 0, .slice none 0 0] 31)).heap[w.heap.size + 1]? = some (.cells #[.int .i64 0, .int .i64 0, .slice none 0 0, .slice none 0 0, .slice none 0 0] 31 (0, 0))) := ⟨by
    have h := blk_new (w.alloc (.cells #[.int .i64 T, .int .i64 E, .slice An now.length cn, .slice Ah held.length ch, .slice Ap pins.length cp] 31)) (.cells #[.int .i64 0, .int .i64 0, .slice none 0 0, .slice none 0 0, .slice none 0 0] 31)
    rw [World.size_alloc] at h
    exact h⟩
  clear t h1 h2 h3
  go_enter Try.func46, Try.ntmps46
  go_upto_region 1 with (fail)
  generalize (w.alloc (.cells #[.int .i64 T, .int .i64 E, .slice An now.length cn, .slice Ah held.length ch, .slice Ap pins.length cp] 31)).alloc (.cells #[.int .i64 0, .int .i64 0, .slice none 0 0, .slice none 0 0, .slice none 0 0] 31) = W1 at D1 Y1 Y2 ⊢
  obtain ⟨gs, hgs⟩ : ∃ gs, gs = w.heap.size := ⟨_, rfl⟩
  obtain ⟨g2, hg2⟩ : ∃ g2, g2 = w.heap.size + 1 := ⟨_, rfl⟩
  have L2 : Aside0 (w.heap.size ≤ g2) := ⟨by omega⟩
  rw [← hg2] at Y2 ⊢
  rw [← hgs] at Y1
  rw [show (Value.pointer (some ⟨w.heap.size, 0, none⟩)) = .pointer (some ⟨gs, 0, none⟩) by rw [hgs]]
  clear hgs hg2 hb
  have hs0 := (blk_cell Y1.out 0).trans (rfl : _ = some (Value.int .i64 T))
  have hs1 := (blk_cell Y1.out 1).trans (rfl : _ = some (Value.int .i64 E))
  have hs2 := (blk_cell Y1.out 2).trans (rfl : _ = some (Value.slice An now.length cn))
  have hs3 := (blk_cell Y1.out 3).trans (rfl : _ = some (Value.slice Ah held.length ch))
  have hs4 := (blk_cell Y1.out 4).trans (rfl : _ = some (Value.slice Ap pins.length cp))
  go_upto_region 2 with (go_at_call 29; (with_reducible refine (own T E (HT.out.below D1.out) H1.out H2.out H3.out).mono ?_); rintro e w2 ⟨v2, v3, v4, rfl, ht, hB⟩; obtain ⟨B2, d2, e2⟩ := Kd.R_slice ht.n; obtain ⟨B3, d3, e3⟩ := Kd.R_slice ht.h; obtain ⟨B4, d4, e4⟩ := Kd.R_slice ht.p; generalize now.length = n3 at e2; generalize held.length = n4 at e3; generalize pins.length = n5 at e4; subst e2 e3 e4; have T2 := Aside0.mk (ht.lower D1.out.size); have D2 := Aside0.mk (D1.out.trans (hB.mono D1.out.size)); have Z1 := Aside0.mk (blk_below Y1.out hB); have Z2 := Aside0.mk (blk_below Y2.out hB); clear ht hB)
  clear D1 Y1 Y2 hs0 hs1 hs2 hs3 hs4
  have BA := below_alloc (Below.refl w2.heap.size w2) (.cells #[.int .i64 T, .int .i64 E, .slice B2 n3 d2, .slice B3 n4 d3, .slice B4 n5 d4] 31)
  have O3 := Own.mk (blk_new w2 (.cells #[.int .i64 T, .int .i64 E, .slice B2 n3 d2, .slice B3 n4 d3, .slice B4 n5 d4] 31)) D2.out.size (T2.out.below BA)
  have SB3 : Sb w #[.int .i64 T, .int .i64 E, .slice An now.length cn, .slice Ah held.length ch, .slice Ap pins.length cp] gs g2 w2.heap.size (w2.alloc (.cells #[.int .i64 T, .int .i64 E, .slice B2 n3 d2, .slice B3 n4 d3, .slice B4 n5 d4] 31)) := ⟨blk_below Z1.out BA, blk_below Z2.out BA, D2.out.trans (BA.mono D2.out.size), L2.out, Nat.ne_of_lt (blk_lt Z1.out), Nat.ne_of_lt (blk_lt Z2.out), D2.out.size⟩
  have S3 := Aside0.mk (St.start O3)
  have SB := Aside0.mk SB3
  clear BA O3 SB3 Z1 Z2 T2 D2 L2
  generalize w2.alloc (.cells #[.int .i64 T, .int .i64 E, .slice B2 n3 d2, .slice B3 n4 d3, .slice B4 n5 d4] 31) = W3 at S3 SB ⊢
  generalize w2.heap.size = gb at S3 SB ⊢
  have hz3 := (blk_cell (blk_alloc S3.out.o.box (.cells #[] 74)) 3).trans (rfl : _ = some (Value.slice B3 n4 d3))
  have hf3 := blk_frozen (blk_alloc S3.out.o.box (.cells #[] 74)) 3
  go_upto_region 3 with (fail)
  have S4 := Aside0.mk (S3.out.toHeld (W1 := W3.alloc (.cells #[] 74)) (vh' := .slice (some ⟨W3.heap.size, 0, none⟩) 0 0) (held' := []) (Room.empty k74 74 _ _ _ _ (blk_new W3 (.cells #[] 74)) SB.out.d.size trivial) ((below_alloc (Below.refl _ _) _).mono SB.out.d.size) (Kept.of_below (below_alloc (Below.refl _ _) _) _) (fun k hk => .inr (Nat.le_of_eq (by simpa [Value.ownBlock] using hk))))
  have SB4 := Aside0.mk ((SB.out.below (below_alloc (Below.refl _ _) (.cells #[] 74))).set 3 (.slice (some ⟨W3.heap.size, 0, none⟩) 0 0))
  clear S3 SB hz3 hf3
  generalize (W3.alloc (.cells #[] 74)).setCell ⟨gb, 3, none⟩ (.slice (some ⟨W3.heap.size, 0, none⟩) 0 0) = W4 at S4 SB4 ⊢
  go_wp2
  go_loopg [4, 5, 6] held.length (fun gg s4 s5 s6 wr => ∃ (i : Nat) (vh' : Value), s4 = .int .i64 (i : Int) ∧ Aside0 (i ≤ held.length ∧ held.length ≤ i + gg) ∧ Aside0 (St W3 w.heap.size gb (.slice B2 n3 d2) (.slice B3 n4 d3) (.slice B4 n5 d4) wr T E (.slice B2 n3 d2) vh' (.slice B4 n5 d4) now ((held.take i).filter (kp E pins)) pins) ∧ Aside0 (Sb w #[.int .i64 T, .int .i64 E, .slice An now.length cn, .slice Ah held.length ch, .slice Ap pins.length cp] gs g2 gb wr))
  case atStart => exact ⟨0, _, rfl, ⟨by omega⟩, ⟨by simpa using S4.out⟩, SB4⟩
  case round =>
    clear S4 SB4
    obtain ⟨i, vh', rfl, HI, SS, SB⟩ := hrel
    have hs3 := (blk_cell SB.out.s 3).trans (rfl : _ = some (Value.slice Ah held.length ch))
    by_cases hin : i < held.length
    · have cc : decide ((i : Int) < (held.length : Int)) = true := decide_eq_true (Int.ofNat_lt.2 hin)
      have p1 : (0 : Int) ≤ (i : Int) := Int.natCast_nonneg i
      have p3 : (i : Int) < (held.length : Int) := Int.ofNat_lt.2 hin
      have hwi := wr1 i held.length hin (by have := H2.out; omega)
      obtain ⟨gh, eh, hx0, hx1⟩ := elem74 (HT.out.below SB.out.d).h i hin
      subst eh
      obtain ⟨x, hx⟩ : ∃ x, x = held.getD i z74 := ⟨_, rfl⟩
      rw [← hx] at hx0 hx1
      have FM := Aside0.mk (filter_more (kp E pins) held i hin)
      have HX := Aside0.mk hx
      rw [← hx] at FM
      have hs1 := (blk_cell SB.out.s 1).trans (rfl : _ = some (Value.int .i64 E))
      have hs4 := (blk_cell SB.out.s 4).trans (rfl : _ = some (Value.slice Ap pins.length cp))
      clear hx
      go_upto_region 6 with (fail)
      go_quiet (fail)
      have DX := Aside0.mk (pw_below_drewN (Below.refl wr.heap.size wr) nq)
      have SS2 := Aside0.mk (SS.out.below SB.out.d.size DX.out)
      have SB2 := Aside0.mk (SB.out.below DX.out)
      clear SS SB hs1 hs3 hs4 hx0 hx1 DX
      generalize wr.drewN nq = wq at SS2 SB2 ⊢
      obtain ⟨wo, hwo⟩ : ∃ wo, wo = wq := ⟨_, rfl⟩
      obtain ⟨go, hgo⟩ : ∃ go, go = gk := ⟨_, rfl⟩
      rw [← hgo] at HI
      rw [← hwo] at SS2 SB2
      have HGO := Aside0.mk hgo
      clear hgo
      subst hwo
      obtain ⟨K0, hK0⟩ : ∃ K0 : Bool, K0 = decide (x.f1 ≥ wrap64 (E - 1)) := ⟨_, rfl⟩
      have HK0 := Aside0.mk hK0
      clear hK0
      go_wp2
      go_loopg [5, 6] pins.length (fun gg2 s5 s6 wz => ∃ j : Nat, s6 = .int .i64 (j : Int) ∧ s5 = .bool (K0 || (pins.take j).any fun p => decide (x.f1 ≥ p)) ∧ Aside0 (j ≤ pins.length ∧ pins.length ≤ j + gg2) ∧ Aside0 (Below wo.heap.size wo wz))
      case atStart => exact ⟨0, rfl, by (simp only [List.take_zero, List.any_nil, Bool.or_false, HK0.out]; first | rfl | (rw [i64_w]; rfl) | rw [i64_w] | done), ⟨by omega⟩, ⟨Below.refl _ _⟩⟩
      case round =>
        obtain ⟨j, rfl, rfl, HJ, DZ⟩ := hrel
        have SB3 := Aside0.mk (SB2.out.below DZ.out)
        have hs3 := (blk_cell SB3.out.s 3).trans (rfl : _ = some (Value.slice (some ⟨gh, 0, none⟩) held.length ch))
        have hs4 := (blk_cell SB3.out.s 4).trans (rfl : _ = some (Value.slice Ap pins.length cp))
        by_cases hj : j < pins.length
        · have cj : decide ((j : Int) < (pins.length : Int)) = true := decide_eq_true (Int.ofNat_lt.2 hj)
          have q1 : (0 : Int) ≤ (j : Int) := Int.natCast_nonneg j
          have q3 : (j : Int) < (pins.length : Int) := Int.ofNat_lt.2 hj
          have hwj := wr1 j pins.length hj (by have := H3.out; omega)
          have AM := Aside0.mk (any_more (fun p => decide (x.f1 ≥ p)) pins j hj)
          obtain ⟨gh', eh', hx0, hx1⟩ := elem74 (HT.out.below SB3.out.d).h i hin
          injection eh' with eh'
          injection eh' with eh'
          subst eh'
          rw [← HX.out] at hx0 hx1
          obtain ⟨gp, ep, hp0⟩ := elemI (HT.out.below SB3.out.d).p j hj
          subst ep
          generalize pins.getD j 0 = pj at hp0 AM
          generalize hKj : (K0 || (pins.take j).any fun p => decide (x.f1 ≥ p)) = Kj
          have HKJ := Aside0.mk hKj
          clear hKj SB2 SS2
          cases Kj with
          | true =>
            go_upto_region 10 with (fail)
            go_quiet (fail)
            all_goals (
              go_wp2_with fail
              go_roundg (gk - 1)
              case measure => have := HJ.out; omega
              case rel => exact ⟨j + 1, by first | rfl | go_num | (rw [hwj]; done), by rw [AM.out, ← Bool.or_assoc, HKJ.out, Bool.true_or], ⟨by have := HJ.out; omega⟩, ⟨by repeat (first | exact DZ.out | apply pw_below_drewN | apply below_drew1)⟩⟩)
          | false =>
            go_upto_region 10 with (fail)
            go_quiet (fail)
            all_goals (
              go_wp2_with fail
              go_roundg (gk - 1)
              case measure => have := HJ.out; omega
              case rel => exact ⟨j + 1, by first | rfl | go_num | (rw [hwj]; done), by rw [AM.out, ← Bool.or_assoc, HKJ.out, Bool.false_or]; first | rfl | done, ⟨by have := HJ.out; omega⟩, ⟨by repeat (first | exact DZ.out | apply pw_below_drewN | apply below_drew1)⟩⟩)
        · have cj : decide ((j : Int) < (pins.length : Int)) = false := decide_eq_false (fun h => hj (Int.ofNat_lt.1 h))
          have hje : j = pins.length := by have := HJ.out; omega
          subst hje
          rw [List.take_length]
          have hkp : (K0 || pins.any fun p => decide (x.f1 ≥ p)) = kp E pins x := by rw [HK0.out]; rfl
          rw [hkp]
          have SS3 := Aside0.mk (SS2.out.below SB2.out.d.size DZ.out)
          clear hkp SB2 SS2
          have hcap : ((held.take i).filter (kp E pins)).length ≤ i := Nat.le_trans (List.length_filter_le _ _) (by rw [List.length_take]; omega)
          have HCP : Aside0 ((((held.take i).filter (kp E pins)).length + 1) * 16 ≤ 140737488355328) := ⟨by have := H2.out; omega⟩
          clear hcap
          cases hk : kp E pins x with
          | false =>
            rw [hk, if_neg (by decide), List.append_nil] at FM
            rw [← FM.out] at SS3
            clear hs3 HK0 HJ hj hk
            go_wp2
            go_roundg (go - 1)
            case measure => have := HI.out; have := HGO.out; omega
            case rel => exact ⟨i + 1, _, by first | rfl | go_num | (rw [hwi]; done), ⟨by have := HI.out; omega⟩, SS3, SB3⟩
          | true =>
            rw [hk, if_pos rfl] at FM
            obtain ⟨gh', eh', hx0, hx1⟩ := elem74 (HT.out.below SB3.out.d).h i hin
            injection eh' with eh'
            injection eh' with eh'
            subst eh'
            rw [← HX.out] at hx0 hx1
            obtain ⟨Av, cv, ev⟩ := Kd.R_slice SS3.out.o.r.h
            generalize hnl : ((held.take i).filter (kp E pins)).length = nl at ev HCP
            subst ev
            have HNL := Aside0.mk hnl
            have hz3 := (blk_cell SS3.out.o.box 3).trans (rfl : _ = some (Value.slice Av nl cv))
            have hd3 := (blk_cell (blk_alloc SS3.out.o.box (.cells #[.int .i64 x.f0, .int .i64 x.f1] 74)) 3).trans (rfl : _ = some (Value.slice Av nl cv))
            clear HK0 HJ hj hk hnl
            go_upto_region 12 with (fail)
            go_region_law (refine Kd.R_append_step (W := wr.drew) k74 (w0 := wr) w.heap.size (by rfl) (.tmp 52) (.tmp 58) 29 74 (.agg #[.int .i64 0, .int .i64 0]) 16 rfl Try.underlying29 info74 rfl (by decide) (by omega) (.slice Av nl cv) ((held.take i).filter (kp E pins)) x [.int .i64 x.f0, .int .i64 x.f1] (fun _ => True) (fun _ => False) rfl rfl ?aP (fun _ h => h.elim) ?aF ?aO ?aB ?aS ?aL ?_; (case aP => exact k74_mkM _ _ _ x); (case aF => exact (fun _ _ => trivial)); (case aO => exact (by (with_reducible repeat (first | apply Kd.R_alloc | apply Kd.R_drewN | apply Kd.R_drew)); exact SS3.out.o.r.h)); (case aB => exact (by repeat (first | exact Below.refl _ _ | apply pw_below_drewN | apply below_drew1))); (case aS => exact SB3.out.d.size); (case aL => rw [HNL.out]; exact HCP.out); intro v1 w1 ho hB hg hat; rw [← FM.out] at ho; obtain ⟨A1, d1, e1⟩ := Kd.R_slice ho; generalize List.length _ = n1 at e1; subst e1; have hbx := blk_grown (blk_drew SS3.out.o.box) hg (Kd.R_ne SS3.out.o.r.h SS3.out.o.box (by decide)); have hz5 := (blk_cell hbx 3).trans (rfl : _ = some (Value.slice Av nl cv)); have hf5 := blk_frozen hbx 3; have AP := Aside0.mk (And.intro ho (And.intro hB (And.intro hg hat))); clear ho hB hg hat hbx)
            all_goals (
              have SS4 := Aside0.mk (SS3.out.toHeld AP.out.1 AP.out.2.1 (grown_kept' AP.out.2.2.1) (Move.hat AP.out.2.2.2))
              have SB4 := Aside0.mk (SB3.out.held SS3.out.o.r.h AP.out.2.1 (grown_kept' AP.out.2.2.1) 3 (.slice A1 n1 d1))
              clear SS3 SB3 AP FM hz3 hd3 hs3 hs4 hx0 hx1
              go_wp2_with fail
              go_roundg (go - 1)
              case measure => have := HI.out; have := HGO.out; omega
              case rel => exact ⟨i + 1, _, by first | rfl | go_num | (rw [hwi]; done), ⟨by have := HI.out; omega⟩, SS4, SB4⟩)
    · have cc : decide ((i : Int) < (held.length : Int)) = false := decide_eq_false (fun h => hin (Int.ofNat_lt.1 h))
      have hni : i = held.length := by have := HI.out; omega
      subst hni
      rw [List.take_length] at SS
      obtain ⟨Av, cv, ev⟩ := Kd.R_slice SS.out.o.r.h
      generalize List.length _ = nl at ev
      subst ev
      have hb0 := (blk_cell SS.out.o.box 0).trans (rfl : _ = some (Value.int .i64 T))
      have hb1 := (blk_cell SS.out.o.box 1).trans (rfl : _ = some (Value.int .i64 E))
      have hb2 := (blk_cell SS.out.o.box 2).trans (rfl : _ = some (Value.slice B2 n3 d2))
      have hb3 := (blk_cell SS.out.o.box 3).trans (rfl : _ = some (Value.slice Av nl cv))
      have hb4 := (blk_cell SS.out.o.box 4).trans (rfl : _ = some (Value.slice B4 n5 d4))
      have hy0 := (blk_cell SB.out.r 0).trans (rfl : _ = some (Value.int .i64 0))
      have hy1 := (blk_cell SB.out.r 1).trans (rfl : _ = some (Value.int .i64 0))
      have hy2 := (blk_cell SB.out.r 2).trans (rfl : _ = some (Value.slice none 0 0))
      have hy3 := (blk_cell SB.out.r 3).trans (rfl : _ = some (Value.slice none 0 0))
      have hy4 := (blk_cell SB.out.r 4).trans (rfl : _ = some (Value.slice none 0 0))
      have hfy := blk_frozen SB.out.r
      clear hin HI
      go_wp2
      refine bodyPost_ret (results_cell_row rfl _ _ g2 31 #[.int .i64 T, .int .i64 E, .slice B2 n3 d2, .slice Av nl cv, .slice B4 n5 d4] (0, 0) _ rfl (put5 SB.out.r) Try.underlying31 rfl (by kernel_rfl)) rfl ?_
      exact ⟨_, _, _, rfl, SS.out.o.r.five SB.out.r, five_below SB.out.d SB.out.l2⟩
end Go.Proofs.Ytcnkacbgcmnokaa.XR.Srel
