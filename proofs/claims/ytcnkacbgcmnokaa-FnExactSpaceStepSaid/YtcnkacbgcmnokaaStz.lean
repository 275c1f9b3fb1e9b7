/- Several texts of the session in one. -/
import Derived.Test.YtcnkacbgcmnokaaSty
import Derived.Test.YtcnkacbgcmnokaaSstsA
import Derived.Test.YtcnkacbgcmnokaaScokA
import Derived.Test.YtcnkacbgcmnokaaActy
import Derived.Test.YtcnkacbgcmnokaaXAHspecSpaceOK
import Derived.Deep.RegionLaw
/- What the reference's step comes to, all kinds of acts. -/
namespace Go.Proofs.Ytcnkacbgcmnokaa.XA.Sstp
open Go Go.RowKit Go.Proofs.YtcnkacbgcmnokaaW.PrintWords Go.Proofs.YtcnkacbgcmnokaaW.PrintLast Go.Proofs.YtcnkacbgcmnokaaW.PrintMore Go.Proofs.Ytcnkacbgcmnokaa.XA Go.Proofs.Ytcnkacbgcmnokaa.XA.Room Go.Proofs.Ytcnkacbgcmnokaa.XA.Srel Go.Proofs.Ytcnkacbgcmnokaa.XA.Scom Go.Proofs.Ytcnkacbgcmnokaa.XA.Act
set_option linter.unusedVariables false
set_option linter.unusedSimpArgs false
open Classical in
noncomputable def f (k : Nat) (T E : Int) (now : List Int) (held : List S74) (pins : List Int) (kind n : Int) : Option Out :=
  if now.length ≤ 1048576 ∧ held.length ≤ 1048576 ∧ pins.length ≤ 1048576 then
    (if kind = 1 then (spec_l04Free.f k T E now held pins).bind fun fr => (spec_l01In.f n 0 64).bind fun ok =>
      if ok = true then (if (fr.length : Int) < n ∨ E = 1000000 then some ⟨E, now, held, pins, 7, []⟩ else if 0 ≤ n ∧ fr.length ≤ 1048576 then some ⟨wrap64 (E + 1), fr.take n.toNat, (mg E (held.length + now.length) held now).filter (kp (wrap64 (E + 1)) pins), pins, 0, fr.take n.toNat⟩ else none) else some ⟨E, now, held, pins, 4, []⟩
    else if kind = 2 then (if pins.length = 4 then some ⟨E, now, held, pins, 7, []⟩ else some ⟨E, now, held, pins ++ [E], 0, now⟩)
    else if kind = 3 then (spec_l01In.f n 0 ((pins.length : Int) - 1)).bind fun ok => if ok = true then (if 0 ≤ n ∧ n < (pins.length : Int) then some ⟨E, now, held.filter (kp E (pins.take n.toNat ++ pins.drop (n.toNat + 1))), pins.take n.toNat ++ pins.drop (n.toNat + 1), 0, []⟩ else none) else some ⟨E, now, held, pins, 5, []⟩
    else some ⟨E, now, held, pins, 3, []⟩)
  else none
theorem calls (k b : Nat) (w : World) (T E : Int) (vn vh vp : Value) (now : List Int) (held : List S74) (pins : List Int) (kind n : Int) (r : Out) (hb : b ≤ w.heap.size) (t : Trio b w vn vh vp now held pins) (h : f k T E now held pins kind n = some r) :
    Calls Try.prog 28 #[.agg #[.int .i64 T, .int .i64 E, vn, vh, vp], .agg #[.int .i64 kind, .int .i64 n]] w (Ret b w T r) := by
  unfold f at h
  obtain ⟨⟨h5, h6, h8⟩, h⟩ := Option.ite_none_right_eq_some.1 h
  by_cases k1 : kind = 1
  · subst k1
    rw [if_pos rfl] at h
    obtain ⟨fr, hf, h⟩ := Option.bind_eq_some_iff.1 h
    obtain ⟨ok, hw, h⟩ := Option.bind_eq_some_iff.1 h
    cases ok with
    | false =>
      rw [if_neg (by decide)] at h
      obtain rfl := Option.some.inj h
      exact commit b w T E vn vh vp now held pins n _ hb t (fun V hV => Scom.range k b V T E vn vh vp now held pins n fr (Nat.le_trans hb hV.size) (t.below hV) hf hw)
    | true =>
      rw [if_pos rfl] at h
      by_cases c : (fr.length : Int) < n ∨ E = 1000000
      · rw [if_pos c] at h
        obtain rfl := Option.some.inj h
        exact commit b w T E vn vh vp now held pins n _ hb t (fun V hV => Scom.full k b V T E vn vh vp now held pins n fr (Nat.le_trans hb hV.size) (t.below hV) hf hw c)
      · rw [if_neg c] at h
        obtain ⟨⟨h0, h7⟩, h⟩ := Option.ite_none_right_eq_some.1 h
        obtain rfl := Option.some.inj h
        obtain ⟨m, rfl⟩ : ∃ m : Nat, n = (m : Int) := ⟨n.toNat, by omega⟩
        rw [Int.toNat_natCast]
        exact commit b w T E vn vh vp now held pins _ _ hb t (fun V hV => Scom.com k b V T E vn vh vp now held pins m fr (Nat.le_trans hb hV.size) (t.below hV) hf hw (by omega) (by omega) h5 h6 h7 h8)
  rw [if_neg k1] at h
  by_cases k2 : kind = 2
  · subst k2
    rw [if_pos rfl] at h
    by_cases c : pins.length = 4
    · rw [if_pos c] at h
      obtain rfl := Option.some.inj h
      exact pinFull b w T E vn vh vp now held pins n hb t c
    · rw [if_neg c] at h
      obtain rfl := Option.some.inj h
      exact pin b w T E vn vh vp now held pins n hb t c h5 h6 h8
  rw [if_neg k2] at h
  by_cases k3 : kind = 3
  · subst k3
    rw [if_pos rfl] at h
    obtain ⟨ok, hw, h⟩ := Option.bind_eq_some_iff.1 h
    cases ok with
    | false =>
      rw [if_neg (by decide)] at h
      obtain rfl := Option.some.inj h
      exact unpinNone b w T E vn vh vp now held pins n hb t h8 hw
    | true =>
      rw [if_pos rfl] at h
      obtain ⟨⟨h0, h1⟩, h⟩ := Option.ite_none_right_eq_some.1 h
      obtain rfl := Option.some.inj h
      obtain ⟨i, rfl⟩ : ∃ i : Nat, n = (i : Int) := ⟨n.toNat, by omega⟩
      rw [Int.toNat_natCast]
      exact unpin b w T E vn vh vp now held pins i hb t hw (by omega) h5 h6 h8
  rw [if_neg k3] at h
  obtain rfl := Option.some.inj h
  exact other b w T E vn vh vp now held pins kind n hb t k1 k2 k3
end Go.Proofs.Ytcnkacbgcmnokaa.XA.Sstp
/- The reference's SpaceStep: a walk. -/
namespace Go.Proofs.Ytcnkacbgcmnokaa.XA.Sspc
open Go Go.RowKit Go.Proofs.YtcnkacbgcmnokaaW.PrintWords Go.Proofs.YtcnkacbgcmnokaaW.PrintLast Go.Proofs.YtcnkacbgcmnokaaW.PrintMore Go.Proofs.Ytcnkacbgcmnokaa.XA Go.Proofs.Ytcnkacbgcmnokaa.XA.Room
set_option linter.unusedVariables false
set_option linter.unusedSimpArgs false
open Classical in
noncomputable def f (k : Nat) (a b : Int) (l2 : List Int) (l3 : List S74) (l4 : List Int) (kind n : Int) : Option Istep.Res :=
  (spec_SpaceOK.f a b l2 l3 l4).bind fun ok => if ok = true then (Sstp.f k a b l2 l3 l4 kind n).bind fun r => if r.now.length ≤ 4194304 ∧ r.held.length ≤ 4194304 ∧ r.pins.length ≤ 4194304 then some ⟨a, r, 0⟩ else none else some ⟨0, ⟨0, [], [], [], 0, []⟩, 1⟩
set_option maxHeartbeats 8000000 in
set_option maxRecDepth 100000 in
theorem calls (k b : Nat) (a0_0 : Int) (a0_1 : Int) (A0_2 : Option Addr) (c0_2 : Nat) (l0_2 : List Int) (A0_3 : Option Addr) (c0_3 : Nat) (l0_3 : List (S74)) (A0_4 : Option Addr) (c0_4 : Nat) (l0_4 : List Int) (kind n : Int) (r : Istep.Res) (w : World) (ht0 : Trio b w (.slice A0_2 l0_2.length c0_2) (.slice A0_3 l0_3.length c0_3) (.slice A0_4 l0_4.length c0_4) l0_2 l0_3 l0_4) (h : f k a0_0 a0_1 l0_2 l0_3 l0_4 kind n = some r) :
    Calls Try.prog 6 #[.agg #[.int .i64 a0_0, .int .i64 a0_1, .slice A0_2 l0_2.length c0_2, .slice A0_3 l0_3.length c0_3, .slice A0_4 l0_4.length c0_4], .agg #[.int .i64 kind, .int .i64 n]] w fun e w' => ∃ vn vh vp vr : Value, e = .returned (.tuple #[.agg #[.int .i64 r.T, .int .i64 r.o.E, vn, vh, vp], .agg #[.int .i64 r.o.code, vr], .int .i64 r.err]) ∧ Trio w.heap.size w' vn vh vp r.o.now r.o.held r.o.pins ∧ (Kd.int .i64).R 3 w' w.heap.size (fun _ => True) vr r.o.pages ∧ Below w.heap.size w w' := by
  have hu31 := Try.underlying31
  have hu33 := Try.underlying33
  have hu37 := Try.underlying37
  obtain ⟨ok, hok, h⟩ := Option.bind_eq_some_iff.1 h
  have TR := Aside0.mk ht0
  have HR2 := Aside0.mk (Kd.R_reads' ht0.n).2.2
  have HR3 := Aside0.mk (Kd.R_reads' ht0.h).2.2
  have HR4 := Aside0.mk (Kd.R_reads' ht0.p).2.2
  have HC := Aside0.mk (And.intro (Kd.R_reads' ht0.n).2.1 (And.intro (Kd.R_reads' ht0.h).2.1 (Kd.R_reads' ht0.p).2.1))
  have HOK := Aside0.mk hok
  have F0 := Aside0.mk (Fr.start w #[.int .i64 a0_0, .int .i64 a0_1, .slice A0_2 l0_2.length c0_2, .slice A0_3 l0_3.length c0_3, .slice A0_4 l0_4.length c0_4] kind n)
  clear ht0 hok
  cases ok with
  | false =>
    rw [if_neg (by decide)] at h
    obtain rfl := Option.some.inj h
    clear h
    go_enter Try.func6, Try.ntmps6
    go_upto_region 1 with (fail)
    generalize (((w.alloc (.cells #[.int .i64 a0_0, .int .i64 a0_1, .slice A0_2 l0_2.length c0_2, .slice A0_3 l0_3.length c0_3, .slice A0_4 l0_4.length c0_4] 31)).alloc (.cells #[.int .i64 kind, .int .i64 n] 37)).alloc (.cells #[.int .i64 0, .int .i64 0, .slice none 0 0, .slice none 0 0, .slice none 0 0] 31)).alloc (.cells #[.int .i64 0, .slice none 0 0] 33) = W1 at F0 ⊢
    generalize w.heap.size + 1 + 1 + 1 = g5 at F0 ⊢
    generalize w.heap.size + 1 + 1 = g4 at F0 ⊢
    have hs0 := (blk_cell F0.out.s 0).trans (rfl : _ = some (Value.int .i64 a0_0))
    have hs1 := (blk_cell F0.out.s 1).trans (rfl : _ = some (Value.int .i64 a0_1))
    have hs2 := (blk_cell F0.out.s 2).trans (rfl : _ = some (Value.slice A0_2 l0_2.length c0_2))
    have hs3 := (blk_cell F0.out.s 3).trans (rfl : _ = some (Value.slice A0_3 l0_3.length c0_3))
    have hs4 := (blk_cell F0.out.s 4).trans (rfl : _ = some (Value.slice A0_4 l0_4.length c0_4))
    go_upto_region 2 with (go_at_call 27; (with_reducible refine (spec_SpaceOK.calls a0_0 a0_1 A0_2 c0_2 l0_2 A0_3 c0_3 l0_3 A0_4 c0_4 l0_4 _ _ (Kd.C_below HR2.out F0.out.d) HC.out.1 (Kd.C_below HR3.out F0.out.d) HC.out.2.1 (Kd.C_below HR4.out F0.out.d) HC.out.2.2 HOK.out).mono ?_); rintro e w2 ⟨rfl, hB⟩; have F1 := Aside0.mk (F0.out.below hB); clear hB)
    clear F0 hs0 hs1 hs2 hs3 hs4
    have hy0 := (blk_cell F1.out.r4 0).trans (rfl : _ = some (Value.int .i64 0))
    have hy1 := (blk_cell F1.out.r4 1).trans (rfl : _ = some (Value.int .i64 0))
    have hy2 := (blk_cell F1.out.r4 2).trans (rfl : _ = some (Value.slice none 0 0))
    have hy3 := (blk_cell F1.out.r4 3).trans (rfl : _ = some (Value.slice none 0 0))
    have hy4 := (blk_cell F1.out.r4 4).trans (rfl : _ = some (Value.slice none 0 0))
    have hx0 := (blk_cell F1.out.r5 0).trans (rfl : _ = some (Value.int .i64 0))
    have hx1 := (blk_cell F1.out.r5 1).trans (rfl : _ = some (Value.slice none 0 0))
    have hn45 : ¬ g4 = g5 := F1.out.n45
    have hn54 : ¬ g5 = g4 := fun e => F1.out.n45 e.symm
    have hfy := blk_frozen F1.out.r4
    have hfx := blk_frozen F1.out.r5
    go_wp2
    obtain ⟨t1, t2, t3, t4, t5⟩ := F1.out.cb.told 0 0 0 (.slice none 0 0) (.slice none 0 0) (.slice none 0 0) (.slice none 0 0)
    refine bodyPost_ret (results_cct rfl _ _ g4 g5 31 33 #[.int .i64 0, .int .i64 0, .slice none 0 0, .slice none 0 0, .slice none 0 0] #[.int .i64 0, .slice none 0 0] (0, 0) (0, 0) _ _ rfl t1 Try.underlying31 rfl (by kernel_rfl) rfl t2 Try.underlying33 rfl (by kernel_rfl)) rfl ?_
    exact ⟨_, _, _, _, rfl, ⟨Kd.R_nil _ _ _ _ _, Kd.R_nil _ _ _ _ _, Kd.R_nil _ _ _ _ _⟩, Kd.R_nil _ _ _ _ _, t3⟩
  | true =>
    rw [if_pos rfl] at h
    obtain ⟨o, ho, h⟩ := Option.bind_eq_some_iff.1 h
    obtain ⟨⟨L1, L2, L3⟩, h⟩ := Option.ite_none_right_eq_some.1 h
    obtain rfl := Option.some.inj h
    dsimp only
    have HO := Aside0.mk ho
    have HL := Aside0.mk (And.intro L1 (And.intro L2 L3))
    clear h ho L1 L2 L3
    go_enter Try.func6, Try.ntmps6
    go_upto_region 1 with (fail)
    generalize (((w.alloc (.cells #[.int .i64 a0_0, .int .i64 a0_1, .slice A0_2 l0_2.length c0_2, .slice A0_3 l0_3.length c0_3, .slice A0_4 l0_4.length c0_4] 31)).alloc (.cells #[.int .i64 kind, .int .i64 n] 37)).alloc (.cells #[.int .i64 0, .int .i64 0, .slice none 0 0, .slice none 0 0, .slice none 0 0] 31)).alloc (.cells #[.int .i64 0, .slice none 0 0] 33) = W1 at F0 ⊢
    generalize w.heap.size + 1 + 1 + 1 = g5 at F0 ⊢
    generalize w.heap.size + 1 + 1 = g4 at F0 ⊢
    have hs0 := (blk_cell F0.out.s 0).trans (rfl : _ = some (Value.int .i64 a0_0))
    have hs1 := (blk_cell F0.out.s 1).trans (rfl : _ = some (Value.int .i64 a0_1))
    have hs2 := (blk_cell F0.out.s 2).trans (rfl : _ = some (Value.slice A0_2 l0_2.length c0_2))
    have hs3 := (blk_cell F0.out.s 3).trans (rfl : _ = some (Value.slice A0_3 l0_3.length c0_3))
    have hs4 := (blk_cell F0.out.s 4).trans (rfl : _ = some (Value.slice A0_4 l0_4.length c0_4))
    go_upto_region 3 with (go_at_call 27; (with_reducible refine (spec_SpaceOK.calls a0_0 a0_1 A0_2 c0_2 l0_2 A0_3 c0_3 l0_3 A0_4 c0_4 l0_4 _ _ (Kd.C_below HR2.out F0.out.d) HC.out.1 (Kd.C_below HR3.out F0.out.d) HC.out.2.1 (Kd.C_below HR4.out F0.out.d) HC.out.2.2 HOK.out).mono ?_); rintro e w2 ⟨rfl, hB⟩; have F1 := Aside0.mk (F0.out.below hB); clear hB)
    clear F0 hs0 hs1 hs2 hs3 hs4
    have hs0 := (blk_cell F1.out.s 0).trans (rfl : _ = some (Value.int .i64 a0_0))
    have hs1 := (blk_cell F1.out.s 1).trans (rfl : _ = some (Value.int .i64 a0_1))
    have hs2 := (blk_cell F1.out.s 2).trans (rfl : _ = some (Value.slice A0_2 l0_2.length c0_2))
    have hs3 := (blk_cell F1.out.s 3).trans (rfl : _ = some (Value.slice A0_3 l0_3.length c0_3))
    have hs4 := (blk_cell F1.out.s 4).trans (rfl : _ = some (Value.slice A0_4 l0_4.length c0_4))
    have ha0 := (blk_cell F1.out.a 0).trans (rfl : _ = some (Value.int .i64 kind))
    have ha1 := (blk_cell F1.out.a 1).trans (rfl : _ = some (Value.int .i64 n))
    go_upto_region 4 with (go_at_call 28; (with_reducible refine (Sstp.calls k 0 _ a0_0 a0_1 _ _ _ l0_2 l0_3 l0_4 kind n o (Nat.zero_le _) ((TR.out.lower (Nat.zero_le _)).below F1.out.d) HO.out).mono ?_); rintro e w3 ⟨vn, vh, vp, vr, rfl, ht, hr, hB⟩; obtain ⟨B2, d2, e2⟩ := Kd.R_slice ht.n; obtain ⟨B3, d3, e3⟩ := Kd.R_slice ht.h; obtain ⟨B4, d4, e4⟩ := Kd.R_slice ht.p; obtain ⟨B5, d5, e5⟩ := Kd.R_slice hr; generalize o.now.length = n3 at e2; generalize o.held.length = n4 at e3; generalize o.pins.length = n5 at e4; generalize o.pages.length = n6 at e5; subst e2 e3 e4 e5; have F2 := Aside0.mk (F1.out.below hB); have T3 := Aside0.mk ht; have R3 := Aside0.mk (Kd.R_lower hr F1.out.d.size); clear ht hr hB)
    have BA := below_alloc (below_alloc (Below.refl w3.heap.size w3) (.cells #[.int .i64 a0_0, .int .i64 o.E, .slice B2 n3 d2, .slice B3 n4 d3, .slice B4 n5 d4] 31)) (.cells #[.int .i64 o.code, .slice B5 n6 d5] 33)
    have F5 := Aside0.mk (F2.out.below BA)
    have T5 := Aside0.mk (T3.out.below BA)
    have R5 := Aside0.mk (Kd.R_below R3.out BA)
    have X7 := Aside0.mk (blk_alloc (blk_new w3 (.cells #[.int .i64 a0_0, .int .i64 o.E, .slice B2 n3 d2, .slice B3 n4 d3, .slice B4 n5 d4] 31)) (.cells #[.int .i64 o.code, .slice B5 n6 d5] 33))
    have X8_ := blk_new (w3.alloc (.cells #[.int .i64 a0_0, .int .i64 o.E, .slice B2 n3 d2, .slice B3 n4 d3, .slice B4 n5 d4] 31)) (.cells #[.int .i64 o.code, .slice B5 n6 d5] 33)
    rw [World.size_alloc] at X8_
    have X8 := Aside0.mk X8_
    have hn84 : ¬ g4 = w3.heap.size + 1 := fun e => Nat.lt_irrefl _ (Nat.lt_of_le_of_lt (Nat.le_succ _) (e ▸ F2.out.lt (.inr (.inr (.inl rfl)))))
    clear BA X8_ T3 R3 F2 F1 hs0 hs1 hs2 hs3 hs4 ha0 ha1
    generalize (w3.alloc (.cells #[.int .i64 a0_0, .int .i64 o.E, .slice B2 n3 d2, .slice B3 n4 d3, .slice B4 n5 d4] 31)).alloc (.cells #[.int .i64 o.code, .slice B5 n6 d5] 33) = W5 at F5 T5 R5 X7 X8 ⊢
    generalize w3.heap.size + 1 = g8 at X8 hn84 ⊢
    generalize w3.heap.size = g7 at X7 ⊢
    have hb0 := (blk_cell X7.out 0).trans (rfl : _ = some (Value.int .i64 a0_0))
    have hb1 := (blk_cell X7.out 1).trans (rfl : _ = some (Value.int .i64 o.E))
    have hb2 := (blk_cell X7.out 2).trans (rfl : _ = some (Value.slice B2 n3 d2))
    have hb3 := (blk_cell X7.out 3).trans (rfl : _ = some (Value.slice B3 n4 d3))
    have hb4 := (blk_cell X7.out 4).trans (rfl : _ = some (Value.slice B4 n5 d4))
    have he0 := (blk_cell X8.out 0).trans (rfl : _ = some (Value.int .i64 o.code))
    have he1 := (blk_cell X8.out 1).trans (rfl : _ = some (Value.slice B5 n6 d5))
    have hn48 : ¬ g8 = g4 := fun e => hn84 e.symm
    have hn45 : ¬ g4 = g5 := F5.out.n45
    have hn54 : ¬ g5 = g4 := fun e => F5.out.n45 e.symm
    go_region_with (go_at_call 29; (with_reducible refine (Srel.own a0_0 o.E (T5.out.below (by repeat (first | exact Below.refl _ _ | apply pw_below_drewN | apply below_drew1))) HL.out.1 HL.out.2.1 HL.out.2.2).mono ?_); rintro e w6 ⟨u2, u3, u4, rfl, ht, hB⟩; obtain ⟨D2, f2, e2⟩ := Kd.R_slice ht.n; obtain ⟨D3, f3, e3⟩ := Kd.R_slice ht.h; obtain ⟨D4, f4, e4⟩ := Kd.R_slice ht.p; generalize List.length _ = m2 at e2; generalize List.length _ = m3 at e3; generalize List.length _ = m4 at e4; subst e2 e3 e4; have BV := Aside0.mk (undrew hB); have T6 := Aside0.mk ht; have F6 := Aside0.mk (F5.out.below BV.out); have R6 := Aside0.mk (Kd.R_below R5.out BV.out); have X8' := Aside0.mk (blk_below X8.out BV.out); clear ht hB; have hi0 := (blk_cell X8'.out 0).trans (rfl : _ = some (Value.int .i64 o.code)); have hi1 := (blk_cell X8'.out 1).trans (rfl : _ = some (Value.slice B5 n6 d5)); have hy0 := (blk_cell F6.out.r4 0).trans (rfl : _ = some (Value.int .i64 0)); have hy1 := (blk_cell F6.out.r4 1).trans (rfl : _ = some (Value.int .i64 0)); have hy2 := (blk_cell F6.out.r4 2).trans (rfl : _ = some (Value.slice none 0 0)); have hy3 := (blk_cell F6.out.r4 3).trans (rfl : _ = some (Value.slice none 0 0)); have hy4 := (blk_cell F6.out.r4 4).trans (rfl : _ = some (Value.slice none 0 0)); have hx0 := (blk_cell F6.out.r5 0).trans (rfl : _ = some (Value.int .i64 0)); have hx1 := (blk_cell F6.out.r5 1).trans (rfl : _ = some (Value.slice none 0 0)); have hfy := blk_frozen F6.out.r4; have hfx := blk_frozen F6.out.r5)
    all_goals (
      go_wp2_with fail
      obtain ⟨t1, t2, t3, t4, t5⟩ := F6.out.cb.told a0_0 o.E o.code (.slice D2 m2 f2) (.slice D3 m3 f3) (.slice D4 m4 f4) (.slice B5 n6 d5)
      have q1 := t4 (Trio.lower T6.out F5.out.d.size)
      first
        | (refine bodyPost_ret (results_cct rfl _ _ g4 g5 31 33 #[.int .i64 a0_0, .int .i64 o.E, .slice D2 m2 f2, .slice D3 m3 f3, .slice D4 m4 f4] #[.int .i64 o.code, .slice B5 n6 d5] (0, 0) (0, 0) _ _ rfl t1 Try.underlying31 rfl (by kernel_rfl) rfl t2 Try.underlying33 rfl (by kernel_rfl)) rfl ?_
           exact ⟨_, _, _, _, rfl, q1, t5 R6.out, t3⟩)
        | (refine bodyPost_ret (results_cct rfl _ _ g4 g5 31 33 #[.int .i64 a0_0, .int .i64 o.E, .slice D2 m2 f2, .slice D3 m3 f3, .slice D4 m4 f4] #[.int .i64 o.code, .slice B5 n6 d5] (0, 0) (0, 0) _ _ rfl (blk_drew t1) Try.underlying31 rfl (by kernel_rfl) rfl (blk_drew t2) Try.underlying33 rfl (by kernel_rfl)) rfl ?_
           exact ⟨_, _, _, _, rfl, q1.below (below_drew (Below.refl _ _)), Kd.R_drew (t5 R6.out), below_drew t3⟩))
end Go.Proofs.Ytcnkacbgcmnokaa.XA.Sspc
