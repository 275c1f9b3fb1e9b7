-- Written for this claim: a contract of one function, proved by hand; the places of its template filled by a program.
import Derived.Test.YtmjbacnioncicaaXF0
import Derived.Test.YtmjbacnioncicaaXF1
import Derived.Test.YtmjbacnioncicaaXF3
import Derived.Test.YtmjbacnioncicaaXF5
import Derived.Test.YtmjbacnioncicaaXF6
import Derived.Test.YtmjbacnioncicaaXF7
import Derived.Test.YtmjbacnioncicaaXF8
import Derived.Test.YtmjbacnioncicaaXF9
import Derived.Lib.SlBy
import Derived.Deep.DeepCutAuto
namespace Go.Proofs.Ytmjbacnioncicaa.XF
open Go Go.RowKit Go.Proofs.YtmjbacnioncicaaW.PrintWords Go.Proofs.YtmjbacnioncicaaW.PrintLast Go.Proofs.YtmjbacnioncicaaW.PrintMore
set_option linter.unusedVariables false
set_option linter.unusedSimpArgs false
open Go.Proofs.Ytmjbacnioncicaa.Xtra
attribute [local go_sem] max2_int min2_int max_two min_two max_three min_three max_four min_four Go.Proofs.Ytmjbacnioncicaa.Xtra.binOp_gtr Go.Proofs.Ytmjbacnioncicaa.Xtra.binOp_leq Go.Proofs.Ytmjbacnioncicaa.Xtra.binOp_geq
/-- The byte that stands at a place, changed as the law changes it. -/
def laws_FnSectors.turned (xs : List Int) (q b : Int) : List Int := xs.set q.toNat (Go.bits .xor .u8 (rd xs q) (IntKind.u8.wrap (IntKind.i64.wrap (1 + b))))
/-- Everything that the law asks, with the answers of the functions that it calls. -/
def laws_FnSectors.f (k : Nat) (l0 l1 : List Int) : Option Bool :=
  if (l0.length : Int) > 1048576 then some true else if (l1.length : Int) > 1048576 then some true else
  (laws_at.f l0 0 254).bind fun p => (laws_at.f l0 1 5000).bind fun e => (laws_at.f l0 2 254).bind fun n => (laws_at.f l0 3 2).bind fun j =>
  (laws_at.f l1 0 32).bind fun q => (laws_at.f l1 1 255).bind fun b => (laws_at.f l1 2 200).bind fun m1 => (laws_at.f l1 3 2999).bind fun m2 =>
  (spec_BlobOf.f k l0).bind fun d =>
  (impl_PageBytes.f k (2 + p) (if j = 0 then 0 else 2 + n) (1 + e) (d.extract 0 (min d.size 27))).bind fun x1 =>
  (spec_PageBytes.f k (2 + p) (if j = 0 then 0 else 2 + n) (1 + e) (d.extract 0 (min d.size 27))).bind fun x2 =>
  (impl_ReadPage.f k (2 + p) (1 + e) x1.1).bind fun x3 =>
  (impl_ReadPage.f k (2 + p) (1 + e) (strOfNums (laws_FnSectors.turned (bytesOf x1.1) q b))).bind fun x4 =>
  (impl_ReadPage.f k (2 + p) (1 + e + 1) x1.1).bind fun x5 =>
  (impl_MetaBytes.f k (1 + e) (2 + m1) (1 + m2)).bind fun x6 =>
  (impl_ReadMeta.f k x6.1).bind fun x7 =>
  (impl_ReadMeta.f k (strOfNums (laws_FnSectors.turned (bytesOf x6.1) q b))).bind fun x8 =>
  (impl_PageSum.f k (bytesOf x1.1)).bind fun s1 => (spec_PageSum.f k (bytesOf x1.1)).bind fun s2 =>
  if (0 ≤ p ∧ p < 254 ∧ 0 ≤ e ∧ e < 5000 ∧ 0 ≤ n ∧ n < 254 ∧ 0 ≤ j ∧ j < 2 ∧ 0 ≤ q ∧ q < 32 ∧ 0 ≤ b ∧ b < 255 ∧ 0 ≤ m1 ∧ m1 < 200 ∧ 0 ≤ m2 ∧ m2 < 2999) ∧
     x1.1.size = 32 ∧ x6.1.size = 32 ∧ x1.2 = 0 ∧ x2 = (x1.1, 0) ∧ x3.1 = (if j = 0 then 0 else 2 + n) ∧ x3.2.2 = 0 ∧ d.size ≤ 140737488351232 ∧ (min d.size 27 ≤ x3.2.1.size ∧ x3.2.1.extract 0 (min d.size 27) = d.extract 0 (min d.size 27)) ∧
     x4.2.2 = 8 ∧ x5.2.2 = 8 ∧ x6.2 = 0 ∧ x7 = (1 + e, 2 + m1, 1 + m2, 0) ∧ x8.2.2.2 = 3 ∧ s1 = s2 then some true else none

theorem laws_FnSectors.c_of {W : World} {g n : Nat} {xs : List Int} (hl : xs.length = n) (hn : n ≤ 9223372036854775807) (h : ∀ j, j < n → W.cell? ⟨g, j, none⟩ = some (.int .u8 (xs.getD j 0))) : Kd.C (Kd.int .u8) W (some ⟨g, 0, none⟩) n xs :=
  ⟨hl, hn, fun _ => ⟨_, rfl, fun j p hj => ⟨[.int .u8 p], rfl, rfl, fun i u hu => by
    have hjl : j < xs.length := (List.getElem?_eq_some_iff.1 hj).1
    match i, hu with
    | 0, hu =>
      obtain rfl := Option.some.inj hu
      show W.cell? ((⟨g, 0, none⟩ : Addr).add (j * 1 + 0)) = _
      rw [Nat.mul_one, Nat.add_zero, add_plain, h j (by omega)]
      simp [List.getD_eq_getElem?_getD, hj]⟩⟩⟩
theorem laws_FnSectors.cells_new (W : World) (s : ByteArray) (n : Nat) (hs : s.size = n) : ∀ j : Nat, j < n → (Lib.bytesWorld W 5 s).cell? ⟨W.heap.size, j, none⟩ = some (.int .u8 (rd (bytesOf s) j)) := by
  intro j hj
  rw [Lib.bytesWorld_cell W 5 s j (by omega)]
  have h' : j < s.data.toList.length := by rw [data_length]; omega
  simp [rd, bytesOf, List.getD_eq_getElem?_getD, List.getElem?_eq_getElem h']
theorem laws_FnSectors.frozen_new (W : World) (s : ByteArray) (n : Nat) (hs : s.size = n) : ∀ j : Nat, j < n → (Lib.bytesWorld W 5 s).frozen? ⟨W.heap.size, j, none⟩ = false := by
  intro j hj
  have h := Lib.bytesWorld_at_new W 5 s
  have hd : s.data.size = n := hs
  have hc : n ≤ (Lib.bytesCells W 5 s).size := by
    unfold Lib.bytesCells
    rw [Array.size_append, Array.size_map, hd]
    omega
  simp [World.frozen?, h]
  omega
theorem laws_FnSectors.cells_put {W : World} {g n : Nat} {xs : List Int} (hl : xs.length = n) (h : ∀ j : Nat, j < n → W.cell? ⟨g, j, none⟩ = some (.int .u8 (rd xs j))) (q : Nat) (hq : q < n) (V : Int) :
    ∀ j : Nat, j < n → (W.setCell ⟨g, q, none⟩ (.int .u8 V)).cell? ⟨g, j, none⟩ = some (.int .u8 (rd (xs.set q V) j)) := by
  intro j hj
  by_cases e : q = j
  · subst e
    rw [World.cell?_setCell_same _ _ _ (h q hq)]
    simp [rd, List.getD_eq_getElem?_getD, hl, hj]
  · rw [World.cell?_setCell_other _ _ _ _ (by intro hc; injection hc with _ h2 _; exact e h2), h j hj]
    simp [rd, List.getD_eq_getElem?_getD, e]
theorem laws_FnSectors.grown_le (W : World) : 32 ≤ grownCap W 32 0 5 := grownCap_ge W 32 0 5
theorem laws_FnSectors.turned_len (t : ByteArray) (q b : Nat) (n : Nat) (h : t.size = n) : (laws_FnSectors.turned (bytesOf t) q b).length = n := by
  unfold laws_FnSectors.turned
  rw [List.length_set, bytesOf_length, h]
theorem laws_FnSectors.turned_put (g : Nat) (W wc : World) (t : ByteArray) (q b : Nat) (x : Int) (n : Nat) (h : t.size = n) (hq : q < n) (K : ∀ j : Nat, j < n → W.cell? ⟨g, j, none⟩ = some (.int .u8 (rd (bytesOf t) j))) (hx : x = rd (bytesOf t) q)
    (hw : ∃ nd, wc = (W.drewN nd).setCell ⟨g, q, none⟩ (.int .u8 (Go.bits .xor .u8 x (IntKind.u8.wrap (IntKind.i64.wrap (1 + (b : Int))))))) :
    ∀ j : Nat, j < n → wc.cell? ⟨g, j, none⟩ = some (.int .u8 ((laws_FnSectors.turned (bytesOf t) q b).getD j 0)) := by
  obtain ⟨nd, rfl⟩ := hw
  intro j hj
  have := laws_FnSectors.cells_put (W := W.drewN nd) (g := g) (xs := bytesOf t) (by rw [bytesOf_length]; exact h) K q hq (Go.bits .xor .u8 x (IntKind.u8.wrap (IntKind.i64.wrap (1 + (b : Int))))) j hj
  rw [this, hx]
  rfl
theorem laws_FnSectors.turned_below (g : Nat) {w : World} (W wc : World) (q : Nat) (v : Value) (D : Below w.heap.size w W) (hg : w.heap.size ≤ g) (hw : ∃ nd, wc = (W.drewN nd).setCell ⟨g, q, none⟩ v) : Below w.heap.size w wc := by
  obtain ⟨nd, rfl⟩ := hw
  exact (pw_below_drewN D nd).setCell (p := ⟨g, q, none⟩) hg v
theorem laws_FnSectors.turned_other (g h : Nat) (W wc : World) (q : Nat) (v : Value) {o : Obj} (hb : W.heap[h]? = some o) (hne : h ≠ g) (hw : ∃ nd, wc = (W.drewN nd).setCell ⟨g, q, none⟩ v) : wc.heap[h]? = some o := by
  obtain ⟨nd, rfl⟩ := hw
  exact (Below.heap_setCell _ ⟨g, q, none⟩ v h hne).trans hb
set_option maxHeartbeats 8000000 in
set_option maxRecDepth 100000 in
theorem laws_FnSectors.walk (k : Nat) (A0 : Option Addr) (c0 : Nat) (l0 : List Int) (A1 : Option Addr) (c1 : Nat) (l1 : List Int) (w : World)
    (hr0 : Kd.C (Kd.int .u8) w A0 l0.length l0) (hc0 : l0.length ≤ c0) (hr1 : Kd.C (Kd.int .u8) w A1 l1.length l1) (hc1 : l1.length ≤ c1)
    (z0 : ¬ (l0.length : Int) > 1048576) (z1 : ¬ (l1.length : Int) > 1048576)
    (p e n m1 m2 : Int) (q b j : Nat) (d t u back e2 f2 : ByteArray) (e1 f1 i1 i2 i3 s nx : Int) (dn : Nat)
    (gp0 : 0 ≤ p) (gp1 : p < 254) (ge0 : 0 ≤ e) (ge1 : e < 5000) (gn0 : 0 ≤ n) (gn1 : n < 254) (gq : q < 32) (gb : b < 255) (gm0 : 0 ≤ m1) (gm1 : m1 < 200) (gm2 : 0 ≤ m2) (gm3 : m2 < 2999)
    (ap : laws_at.f l0 0 254 = some p) (ae : laws_at.f l0 1 5000 = some e) (an : laws_at.f l0 2 254 = some n) (aj : laws_at.f l0 3 2 = some (j : Int)) (gj : j < 2) (hj : (j = 0 ∧ nx = 0) ∨ (j = 1 ∧ nx = 2 + n))
    (aq : laws_at.f l1 0 32 = some (q : Int)) (ab : laws_at.f l1 1 255 = some (b : Int)) (am1 : laws_at.f l1 2 200 = some m1) (am2 : laws_at.f l1 3 2999 = some m2)
    (ad : spec_BlobOf.f k l0 = some d) (gd : d.size ≤ 140737488351232) (hdn : min d.size 27 = dn)
    (dd : ByteArray) (hdd : d.extract 0 dn = dd) (gdd : dd.size = dn)
    (a1 : impl_PageBytes.f k (2 + p) nx (1 + e) dd = some (t, 0)) (a2 : spec_PageBytes.f k (2 + p) nx (1 + e) dd = some (t, 0)) (gt : t.size = 32)
    (a3 : impl_ReadPage.f k (2 + p) (1 + e) t = some (nx, back, 0)) (gk : dn ≤ back.size) (hk : back.extract 0 dn = dd)
    (a4 : impl_ReadPage.f k (2 + p) (1 + e) (strOfNums (laws_FnSectors.turned (bytesOf t) q b)) = some (e1, e2, 8)) (a5 : impl_ReadPage.f k (2 + p) (1 + e + 1) t = some (f1, f2, 8))
    (a6 : impl_MetaBytes.f k (1 + e) (2 + m1) (1 + m2) = some (u, 0)) (gu : u.size = 32) (a7 : impl_ReadMeta.f k u = some (1 + e, 2 + m1, 1 + m2, 0))
    (a8 : impl_ReadMeta.f k (strOfNums (laws_FnSectors.turned (bytesOf u) q b)) = some (i1, i2, i3, 3))
    (a9 : impl_PageSum.f k (bytesOf t) = some s) (a10 : spec_PageSum.f k (bytesOf t) = some s) :
    Calls Try.prog 3 #[.slice A0 l0.length c0, .slice A1 l1.length c1] w fun e w' => e = .returned (.bool true) ∧ Below w.heap.size w w' := by
  have hu31 := Try.underlying31
  have H_ap := Aside0.mk ap
  have H_ae := Aside0.mk ae
  have H_an := Aside0.mk an
  have H_aj := Aside0.mk aj
  have H_aq := Aside0.mk aq
  have H_ab := Aside0.mk ab
  have H_am1 := Aside0.mk am1
  have H_am2 := Aside0.mk am2
  have H_ad := Aside0.mk ad
  have H_a1 := Aside0.mk a1
  have H_a2 := Aside0.mk a2
  have H_a3 := Aside0.mk a3
  have H_a4 := Aside0.mk a4
  have H_a5 := Aside0.mk a5
  have H_a6 := Aside0.mk a6
  have H_a7 := Aside0.mk a7
  have H_a8 := Aside0.mk a8
  have H_a9 := Aside0.mk a9
  have H_a10 := Aside0.mk a10
  have H_hr0 := Aside0.mk hr0
  have H_hr1 := Aside0.mk hr1
  have H_hc0 := Aside0.mk hc0
  have H_hc1 := Aside0.mk hc1
  have H_hk := Aside0.mk hk
  have H_gt := Aside0.mk gt
  have H_gu := Aside0.mk gu
  have H_gdd := Aside0.mk gdd
  have H_hdd := Aside0.mk hdd
  have H_gk := Aside0.mk gk
  have H_hj := Aside0.mk hj
  have H_gd := Aside0.mk gd
  have H_hdn := Aside0.mk hdn
  clear ap ae an aj aq ab am1 am2 ad a1 a2 a3 a4 a5 a6 a7 a8 a9 a10 hr0 hr1 hc0 hc1 hk gt gu gdd hdd gk hj gd hdn
  have b0 : decide (1048576 < (l0.length : Int)) = false := decide_eq_false z0
  have b1 : decide (1048576 < (l1.length : Int)) = false := decide_eq_false z1
  have b2 : decide (1048576 < l0.length) = false := decide_eq_false (by omega)
  have b3 : decide (1048576 < l1.length) = false := decide_eq_false (by omega)
  clear z0 z1
  have D0 := Aside0.mk (Below.refl w.heap.size w)
  go_enter Try.func3, Try.ntmps3
  go_upto_region 4 with ((go_at_call 4; (with_reducible refine (laws_at.calls _ _ l0 0 254 _ _ (Kd.C_below H_hr0.out D0.out) H_hc0.out H_ap.out).mono ?_); rintro e_ W1 ⟨rfl, hd⟩; have D1 := Aside0.mk (below_then D0.out D0.out.size hd.below); clear hd; clear D0))
  go_upto_region 5 with ((go_at_call 4; (with_reducible refine (laws_at.calls _ _ l0 1 5000 _ _ (Kd.C_below H_hr0.out D1.out) H_hc0.out H_ae.out).mono ?_); rintro e_ W2 ⟨rfl, hd⟩; have D2 := Aside0.mk (below_then D1.out D1.out.size hd.below); clear hd; clear D1))
  have gj2 : (j : Int) < 2 := by omega
  go_upto_region 6 with (first | (go_at_call 4; (with_reducible refine (laws_at.calls _ _ l0 2 254 _ _ (Kd.C_below H_hr0.out D2.out) H_hc0.out H_an.out).mono ?_); rintro e_ W3 ⟨rfl, hd⟩; have D3 := Aside0.mk (below_then D2.out D2.out.size hd.below); clear hd; clear D2) | (go_at_call 4; (with_reducible refine (laws_at.calls _ _ l0 3 2 _ _ (Kd.C_below H_hr0.out (below_alloc D3.out _)) H_hc0.out H_aj.out).mono ?_); rintro e_ W4 ⟨rfl, hd⟩; have D4 := Aside0.mk (below_then (below_alloc D3.out (.cells #[.int .i64 0, .int .i64 (2 + n)] 3 (0, 0))) (by have := D3.out.size; simp; omega) hd.below); have hz4 := blk_below (blk_new W3 (.cells #[.int .i64 0, .int .i64 (2 + n)] 3 (0, 0))) hd.below; have hzc : W4.cell? ⟨W3.heap.size, j, none⟩ = some (.int .i64 nx) := (by rcases H_hj.out with ⟨rfl, rfl⟩ | ⟨rfl, rfl⟩; exact (blk_cell hz4 0).trans rfl; exact (blk_cell hz4 1).trans rfl); clear hd hz4; clear D3))
  clear hzc
  go_upto_region 7 with ((go_at_call 5; (with_reducible refine (spec_BlobOf.calls k _ _ l0 d _ (Kd.C_below H_hr0.out D4.out) H_hc0.out H_ad.out).mono ?_); rintro e_ W5 ⟨rfl, hd⟩; have D5 := Aside0.mk (below_then D4.out D4.out.size hd); clear hd; clear D4))
  have hdn := H_hdn.out
  have gdn : dn ≤ d.size := by omega
  have gd7 : dn ≤ 27 := by omega
  have gd1 : (dn : Int) ≤ (d.size : Int) := by omega
  have hmin : (if (27 : Int) < (d.size : Int) then 27 else (d.size : Int)) = (dn : Int) := by split <;> omega
  have hdd := H_hdd.out
  clear hdn
  go_upto_region 8 with (fail)
  clear hdd hmin gd1 gdn gd7
  go_upto_region 9 with ((go_at_call 6; (with_reducible refine (impl_PageBytes.calls k (2 + p) nx (1 + e) dd t 0 _ H_a1.out).mono ?_); rintro e_ W6 ⟨rfl, hd⟩; have D6 := Aside0.mk (below_then D5.out D5.out.size hd); clear hd; clear D5))
  go_upto_region 10 with ((go_at_call 7; (with_reducible refine (spec_PageBytes.calls k (2 + p) nx (1 + e) dd t 0 _ H_a2.out).mono ?_); rintro e_ W7 ⟨rfl, hd⟩; have D7 := Aside0.mk (below_then D6.out D6.out.size hd); clear hd; clear D6))
  go_upto_region 11 with ((go_at_call 8; (with_reducible refine (impl_ReadPage.calls k (2 + p) (1 + e) t nx back 0 _ H_a3.out).mono ?_); rintro e_ W8 ⟨rfl, hd⟩; have D8 := Aside0.mk (below_then D7.out D7.out.size hd); clear hd; clear D7))
  have gk := H_gk.out
  have gk2 : (dn : Int) ≤ (back.size : Int) := by omega
  have hk := H_hk.out
  have gdd := H_gdd.out
  go_upto_region 13 with (fail)
  clear gk gk2 hk gdd
  go_upto_region 14 with ((go_at_call 4; (with_reducible refine (laws_at.calls _ _ l1 0 32 _ _ (Kd.C_below H_hr1.out D8.out) H_hc1.out H_aq.out).mono ?_); rintro e_ W9 ⟨rfl, hd⟩; have D9 := Aside0.mk (below_then D8.out D8.out.size hd.below); clear hd; clear D8))
  have kb := fun W => print_bytes (P := Try.prog) 9 22 5 Try.underlying9 Try.underlying22 Try.underlying5 t W
  rw [H_gt.out] at kb
  go_upto_region 15 with (fail)
  clear kb
  have K10 := Aside0.mk (laws_FnSectors.cells_new W9 t 32 H_gt.out)
  have F10 := Aside0.mk (laws_FnSectors.frozen_new W9 t 32 H_gt.out)
  have D10 := Aside0.mk (bytes_below D9.out D9.out.size 5 t)
  have G10 : Aside0 (w.heap.size ≤ W9.heap.size ∧ W9.heap.size < (Lib.bytesWorld W9 5 t).heap.size) := ⟨D9.out.size, by rw [Lib.bytesWorld_size]; omega⟩
  clear D9
  obtain ⟨g, hg⟩ : ∃ g, g = W9.heap.size := ⟨_, rfl⟩
  obtain ⟨cap, hcap⟩ : ∃ c, c = grownCap W9 32 0 5 := ⟨_, rfl⟩
  rw [← hg] at K10 F10 G10 ⊢
  rw [← hcap]
  clear hcap
  generalize Lib.bytesWorld W9 5 t = W10 at K10 F10 D10 G10 ⊢
  clear hg W9
  obtain ⟨x, hx⟩ : ∃ x, x = rd (bytesOf t) q := ⟨_, rfl⟩
  have hcq : W10.cell? ⟨g, q, none⟩ = some (.int .u8 x) := by rw [hx]; exact K10.out q gq
  have hfq : W10.frozen? ⟨g, q, none⟩ = false := F10.out q gq
  have gq2 : (q : Int) < 32 := by omega
  have HX := Aside0.mk hx
  clear hx
  have hc1' : ∀ W, Drawn0 W10 W → Kd.C (Kd.int .u8) W A1 l1.length l1 := fun W hd => Kd.C_below H_hr1.out (below_then D10.out D10.out.size hd.below)
  have HC := Aside0.mk hc1'
  clear hc1'
  go_cut [17] (fun s17 wx => s17 = .slice (some ⟨g, 0, none⟩) 32 cap ∧ Aside0 (∃ nd, wx = (W10.drewN nd).setCell ⟨g, q, none⟩ (.int .u8 (Go.bits .xor .u8 x (IntKind.u8.wrap (IntKind.i64.wrap (1 + (b : Int))))))))
  case first =>
    go_region_with (go_at_call 4; (with_reducible refine (laws_at.calls _ _ l1 1 255 _ _ ?hC H_hc1.out H_ab.out).mono ?_); (case hC => first | exact HC.out _ (Drawn0.refl _) | exact HC.out _ ⟨⟨1, rfl⟩⟩); rintro e_ W' ⟨rfl, ⟨nd, rfl⟩⟩)
    all_goals (go_wp2_with fail; go_meet; exact ⟨rfl, ⟨_, rfl⟩⟩)
  case rest =>
    obtain ⟨rfl, HWX⟩ := hcut
    have K11 := Aside0.mk (laws_FnSectors.turned_put g W10 wc t q b x 32 H_gt.out gq K10.out HX.out HWX.out)
    have D11 := Aside0.mk (laws_FnSectors.turned_below g W10 wc q _ D10.out G10.out.1 HWX.out)
    clear HWX K10 D10 HC hcq hfq F10 G10 HX
    have hcv := Kd.C_string (P := Try.prog) (A := some ⟨g, 0, none⟩) (c := cap) Try.underlying22 Try.underlying5 Try.underlying9 (laws_FnSectors.c_of (laws_FnSectors.turned_len t q b 32 H_gt.out) (by omega) K11.out)
    clear K11
    go_upto_region 17 with ((go_at_call 8; (with_reducible refine (impl_ReadPage.calls k (2 + p) (1 + e) (strOfNums (laws_FnSectors.turned (bytesOf t) q b)) e1 e2 8 _ H_a4.out).mono ?_); rintro e_ W12 ⟨rfl, hd⟩; have D12 := Aside0.mk (below_then D11.out D11.out.size hd); clear hd; clear D11))
    clear hcv
    go_upto_region 18 with ((go_at_call 8; (with_reducible refine (impl_ReadPage.calls k (2 + p) (1 + e + 1) t f1 f2 8 _ H_a5.out).mono ?_); rintro e_ W13 ⟨rfl, hd⟩; have D13 := Aside0.mk (below_then D12.out D12.out.size hd); clear hd; clear D12))
    go_upto_region 19 with (first | (go_at_call 4; (with_reducible refine (laws_at.calls _ _ l1 2 200 _ _ (Kd.C_below H_hr1.out D13.out) H_hc1.out H_am1.out).mono ?_); rintro e_ W14 ⟨rfl, hd⟩; have D14 := Aside0.mk (below_then D13.out D13.out.size hd.below); clear hd; clear D13) | (go_at_call 4; (with_reducible refine (laws_at.calls _ _ l1 3 2999 _ _ (Kd.C_below H_hr1.out D14.out) H_hc1.out H_am2.out).mono ?_); rintro e_ W15 ⟨rfl, hd⟩; have D15 := Aside0.mk (below_then D14.out D14.out.size hd.below); clear hd; clear D14))
    have X16 := Aside0.mk (blk_new W15 (.cells #[.int .i64 (1 + e), .int .i64 (2 + m1), .int .i64 (1 + m2)] 31 (0, 0)))
    have D16 := Aside0.mk (below_alloc D15.out (.cells #[.int .i64 (1 + e), .int .i64 (2 + m1), .int .i64 (1 + m2)] 31 (0, 0)))
    have S16 : Aside0 (w.heap.size ≤ W15.heap.size) := ⟨D15.out.size⟩
    clear D15
    generalize W15.alloc (.cells #[.int .i64 (1 + e), .int .i64 (2 + m1), .int .i64 (1 + m2)] 31 (0, 0)) = W16 at X16 D16 ⊢
    generalize W15.heap.size = gm at X16 S16 ⊢
    have xz0 : W16.cell? ⟨gm, 0, none⟩ = some (.int .i64 (1 + e)) := (blk_cell X16.out 0).trans rfl
    have xz1 : W16.cell? ⟨gm, 1, none⟩ = some (.int .i64 (2 + m1)) := (blk_cell X16.out 1).trans rfl
    have xz2 : W16.cell? ⟨gm, 2, none⟩ = some (.int .i64 (1 + m2)) := (blk_cell X16.out 2).trans rfl
    go_upto_region 20 with ((go_at_call 9; (with_reducible refine (impl_MetaBytes.calls k (1 + e) (2 + m1) (1 + m2) u 0 _ H_a6.out).mono ?_); rintro e_ W17 ⟨rfl, hd⟩; have D17 := Aside0.mk (below_then D16.out D16.out.size hd); have X17 := Aside0.mk (blk_below X16.out hd); clear hd; clear D16; clear X16 xz0 xz1 xz2))
    go_upto_region 21 with ((go_at_call 10; (with_reducible refine (impl_ReadMeta.calls k u (1 + e) (2 + m1) (1 + m2) 0 _ H_a7.out).mono ?_); rintro e_ W18 ⟨rfl, hd⟩; have D18 := Aside0.mk (below_then D17.out D17.out.size hd); have X18 := Aside0.mk (blk_below X17.out hd); clear hd; clear D17; clear X17))
    have Y19 := Aside0.mk (blk_new W18 (.cells #[.int .i64 (1 + e), .int .i64 (2 + m1), .int .i64 (1 + m2)] 31 (0, 0)))
    have X19 := Aside0.mk (blk_alloc X18.out (.cells #[.int .i64 (1 + e), .int .i64 (2 + m1), .int .i64 (1 + m2)] 31 (0, 0)))
    have D19 := Aside0.mk (below_alloc D18.out (.cells #[.int .i64 (1 + e), .int .i64 (2 + m1), .int .i64 (1 + m2)] 31 (0, 0)))
    have S19 : Aside0 (w.heap.size ≤ W18.heap.size ∧ gm < W18.heap.size) := ⟨D18.out.size, blk_lt X18.out⟩
    clear D18 X18
    generalize W18.alloc (.cells #[.int .i64 (1 + e), .int .i64 (2 + m1), .int .i64 (1 + m2)] 31 (0, 0)) = W19 at X19 Y19 D19 ⊢
    generalize W18.heap.size = gx at Y19 S19 ⊢
    have kb := fun W => print_bytes (P := Try.prog) 9 22 5 Try.underlying9 Try.underlying22 Try.underlying5 u W
    rw [H_gu.out] at kb
    go_upto_region 22 with (fail)
    clear kb
    have K20 := Aside0.mk (laws_FnSectors.cells_new W19 u 32 H_gu.out)
    have F20 := Aside0.mk (laws_FnSectors.frozen_new W19 u 32 H_gu.out)
    have D20 := Aside0.mk (bytes_below D19.out D19.out.size 5 u)
    have X20 := Aside0.mk (blk_below X19.out (bytes_below (Below.refl _ _) (Nat.le_refl _) 5 u))
    have Y20 := Aside0.mk (blk_below Y19.out (bytes_below (Below.refl _ _) (Nat.le_refl _) 5 u))
    have G20 : Aside0 (w.heap.size ≤ W19.heap.size ∧ gm < W19.heap.size ∧ gx < W19.heap.size) := ⟨D19.out.size, blk_lt X19.out, blk_lt Y19.out⟩
    clear D19 X19 Y19
    obtain ⟨g2, hg2⟩ : ∃ g2, g2 = W19.heap.size := ⟨_, rfl⟩
    obtain ⟨cap2, hcap2⟩ : ∃ c, c = grownCap W19 32 0 5 := ⟨_, rfl⟩
    rw [← hg2] at K20 F20 G20 ⊢
    rw [← hcap2]
    clear hcap2
    generalize Lib.bytesWorld W19 5 u = W20 at K20 F20 D20 X20 Y20 ⊢
    clear hg2
    obtain ⟨x2, hx2⟩ : ∃ x2, x2 = rd (bytesOf u) q := ⟨_, rfl⟩
    have hcq : W20.cell? ⟨g2, q, none⟩ = some (.int .u8 x2) := by rw [hx2]; exact K20.out q gq
    have hfq : W20.frozen? ⟨g2, q, none⟩ = false := F20.out q gq
    have HX2 := Aside0.mk hx2
    clear hx2
    have hc1' : ∀ W, Drawn0 W20 W → Kd.C (Kd.int .u8) W A1 l1.length l1 := fun W hd => Kd.C_below H_hr1.out (below_then D20.out D20.out.size hd.below)
    have HC := Aside0.mk hc1'
    clear hc1'
    go_cut [17] (fun s17 wx => s17 = .slice (some ⟨g2, 0, none⟩) 32 cap2 ∧ Aside0 (∃ nd, wx = (W20.drewN nd).setCell ⟨g2, q, none⟩ (.int .u8 (Go.bits .xor .u8 x2 (IntKind.u8.wrap (IntKind.i64.wrap (1 + (b : Int))))))))
    case first =>
      go_region_with (go_at_call 4; (with_reducible refine (laws_at.calls _ _ l1 1 255 _ _ ?hC H_hc1.out H_ab.out).mono ?_); (case hC => first | exact HC.out _ (Drawn0.refl _) | exact HC.out _ ⟨⟨1, rfl⟩⟩); rintro e_ W' ⟨rfl, ⟨nd, rfl⟩⟩)
      all_goals (go_wp2_with fail; go_meet; exact ⟨rfl, ⟨_, rfl⟩⟩)
    case rest =>
      obtain ⟨rfl, HWX⟩ := hcut
      have K21 := Aside0.mk (laws_FnSectors.turned_put g2 W20 wc u q b x2 32 H_gu.out gq K20.out HX2.out HWX.out)
      have D21 := Aside0.mk (laws_FnSectors.turned_below g2 W20 wc q _ D20.out G20.out.1 HWX.out)
      have X21 := Aside0.mk (laws_FnSectors.turned_other g2 gm W20 wc q _ X20.out (Nat.ne_of_lt G20.out.2.1) HWX.out)
      have Y21 := Aside0.mk (laws_FnSectors.turned_other g2 gx W20 wc q _ Y20.out (Nat.ne_of_lt G20.out.2.2) HWX.out)
      clear HWX K20 D20 X20 Y20 HC hcq hfq F20 G20 HX2
      have hcv := Kd.C_string (P := Try.prog) (A := some ⟨g2, 0, none⟩) (c := cap2) Try.underlying22 Try.underlying5 Try.underlying9 (laws_FnSectors.c_of (laws_FnSectors.turned_len u q b 32 H_gu.out) (by omega) K21.out)
      clear K21
      go_upto_region 24 with ((go_at_call 10; (with_reducible refine (impl_ReadMeta.calls k (strOfNums (laws_FnSectors.turned (bytesOf u) q b)) i1 i2 i3 3 _ H_a8.out).mono ?_); rintro e_ W22 ⟨rfl, hd⟩; have D22 := Aside0.mk (below_then D21.out D21.out.size hd);  have X22 := Aside0.mk (blk_below X21.out hd); have Y22 := Aside0.mk (blk_below Y21.out hd); clear X21 Y21; clear hd; clear D21))
      clear hcv
      have X23 := Aside0.mk (blk_alloc X22.out (.cells #[.int .i64 i1, .int .i64 i2, .int .i64 i3] 31 (0, 0)))
      have Y23 := Aside0.mk (blk_alloc Y22.out (.cells #[.int .i64 i1, .int .i64 i2, .int .i64 i3] 31 (0, 0)))
      have D23 := Aside0.mk (below_alloc D22.out (.cells #[.int .i64 i1, .int .i64 i2, .int .i64 i3] 31 (0, 0)))
      clear D22 X22 Y22
      generalize W22.alloc (.cells #[.int .i64 i1, .int .i64 i2, .int .i64 i3] 31 (0, 0)) = W23 at X23 Y23 D23 ⊢
      have xz0 : W23.cell? ⟨gm, 0, none⟩ = some (.int .i64 (1 + e)) := (blk_cell X23.out 0).trans rfl
      have xz1 : W23.cell? ⟨gm, 1, none⟩ = some (.int .i64 (2 + m1)) := (blk_cell X23.out 1).trans rfl
      have xz2 : W23.cell? ⟨gm, 2, none⟩ = some (.int .i64 (1 + m2)) := (blk_cell X23.out 2).trans rfl
      have yz0 : W23.cell? ⟨gx, 0, none⟩ = some (.int .i64 (1 + e)) := (blk_cell Y23.out 0).trans rfl
      have yz1 : W23.cell? ⟨gx, 1, none⟩ = some (.int .i64 (2 + m1)) := (blk_cell Y23.out 1).trans rfl
      have yz2 : W23.cell? ⟨gx, 2, none⟩ = some (.int .i64 (1 + m2)) := (blk_cell Y23.out 2).trans rfl
      have kb := fun W => print_bytes (P := Try.prog) 9 22 5 Try.underlying9 Try.underlying22 Try.underlying5 t W
      rw [H_gt.out] at kb
      have hp9 : ∀ W, Calls Try.prog 11 #[.slice (some ⟨W.heap.size, 0, none⟩) 32 (grownCap W 32 0 5)] (Lib.bytesWorld W 5 t) fun e w' => e = .returned (.int .i64 s) ∧ Drawn0 (Lib.bytesWorld W 5 t) w' := fun W => by
        have hl : (bytesOf t).length = 32 := by rw [bytesOf_length]; exact H_gt.out
        have h := impl_PageSum.calls k (some ⟨W.heap.size, 0, none⟩) (grownCap W 32 0 5) (bytesOf t) s (Lib.bytesWorld W 5 t) (by rw [hl]; exact laws_FnSectors.c_of hl (by omega) (laws_FnSectors.cells_new W t 32 H_gt.out)) (by rw [hl]; exact laws_FnSectors.grown_le W) H_a9.out
        rw [hl] at h
        exact h
      have hp10 : ∀ W, Calls Try.prog 12 #[.slice (some ⟨W.heap.size, 0, none⟩) 32 (grownCap W 32 0 5)] (Lib.bytesWorld W 5 t) fun e w' => e = .returned (.int .i64 s) ∧ Drawn0 (Lib.bytesWorld W 5 t) w' := fun W => by
        have hl : (bytesOf t).length = 32 := by rw [bytesOf_length]; exact H_gt.out
        have h := spec_PageSum.calls k (some ⟨W.heap.size, 0, none⟩) (grownCap W 32 0 5) (bytesOf t) s (Lib.bytesWorld W 5 t) (by rw [hl]; exact laws_FnSectors.c_of hl (by omega) (laws_FnSectors.cells_new W t 32 H_gt.out)) (by rw [hl]; exact laws_FnSectors.grown_le W) H_a10.out
        rw [hl] at h
        exact h
      have P9 := Aside0.mk hp9
      have P10 := Aside0.mk hp10
      clear hp9 hp10
      go_wp2_with (first | (go_at_call 11; (with_reducible refine (P9.out _).mono ?_); rintro e_ W24 ⟨rfl, hd⟩; have D24 := Aside0.mk (below_then (bytes_below D23.out D23.out.size 5 t) (by have := D23.out.size; rw [Lib.bytesWorld_size]; omega) hd.below); clear hd; clear D23) | (go_at_call 12; (with_reducible refine (P10.out _).mono ?_); rintro e_ W25 ⟨rfl, hd⟩; have D25 := Aside0.mk (below_then (bytes_below D24.out D24.out.size 5 t) (by have := D24.out.size; rw [Lib.bytesWorld_size]; omega) hd.below); clear hd; clear D24))
      go_ret
      exact ⟨rfl, D25.out⟩
set_option maxHeartbeats 8000000 in
set_option maxRecDepth 100000 in
theorem laws_FnSectors.long (A0 : Option Addr) (c0 : Nat) (l0 : List Int) (A1 : Option Addr) (c1 : Nat) (l1 : List Int) (w : World) (z : (l0.length : Int) > 1048576 ∨ (l1.length : Int) > 1048576) :
    Calls Try.prog 3 #[.slice A0 l0.length c0, .slice A1 l1.length c1] w fun e w' => e = .returned (.bool true) ∧ Below w.heap.size w w' := by
  by_cases z0 : (l0.length : Int) > 1048576
  · have b0 : decide (1048576 < (l0.length : Int)) = true := decide_eq_true z0
    have b2 : decide (1048576 < l0.length) = true := decide_eq_true (by omega)
    clear z z0
    go_enter Try.func3, Try.ntmps3
    go_wp2
    go_ret
    exact ⟨rfl, Below.refl _ _⟩
  · have z1 := z.resolve_left z0
    have b0 : decide (1048576 < (l0.length : Int)) = false := decide_eq_false z0
    have b2 : decide (1048576 < l0.length) = false := decide_eq_false (by omega)
    have b1 : decide (1048576 < (l1.length : Int)) = true := decide_eq_true z1
    have b3 : decide (1048576 < l1.length) = true := decide_eq_true (by omega)
    clear z z0 z1
    go_enter Try.func3, Try.ntmps3
    go_wp2
    go_ret
    exact ⟨rfl, Below.refl _ _⟩
theorem laws_FnSectors.calls (k : Nat) (A0 : Option Addr) (c0 : Nat) (l0 : List Int) (A1 : Option Addr) (c1 : Nat) (l1 : List Int) (r : Bool) (w : World)
    (hr0 : Kd.C (Kd.int .u8) w A0 l0.length l0) (hc0 : l0.length ≤ c0) (hr1 : Kd.C (Kd.int .u8) w A1 l1.length l1) (hc1 : l1.length ≤ c1) (h : laws_FnSectors.f k l0 l1 = some r) :
    Calls Try.prog 3 #[.slice A0 l0.length c0, .slice A1 l1.length c1] w fun e w' => e = .returned (.bool r) ∧ Below w.heap.size w w' := by
  unfold laws_FnSectors.f at h
  by_cases z0 : (l0.length : Int) > 1048576
  · rw [if_pos z0] at h
    obtain rfl := Option.some.inj h
    exact laws_FnSectors.long A0 c0 l0 A1 c1 l1 w (.inl z0)
  rw [if_neg z0] at h
  by_cases z1 : (l1.length : Int) > 1048576
  · rw [if_pos z1] at h
    obtain rfl := Option.some.inj h
    exact laws_FnSectors.long A0 c0 l0 A1 c1 l1 w (.inr z1)
  rw [if_neg z1] at h
  simp only [Option.bind_eq_some_iff] at h
  obtain ⟨p, ap, e, ae, n, an, j, aj, q, aq, b, ab, m1, am1, m2, am2, d, ad, ⟨t, t2⟩, a1, x2, a2, ⟨y1, y2, y3⟩, a3, ⟨e1, e2, e3⟩, a4, ⟨f1, f2, f3⟩, a5, ⟨u, u2⟩, a6, x7, a7, ⟨i1, i2, i3, i4⟩, a8, s1, a9, s2, a10, h⟩ := h
  obtain ⟨hc, h⟩ := Option.ite_none_right_eq_some.1 h
  · obtain rfl := Option.some.inj h
    obtain ⟨⟨gp0, gp1, ge0, ge1, gn0, gn1, gj0, gj1, gq0, gq1, gb0, gb1, gm0, gm1, gm2, gm3⟩, gt, gu, ht2, hx2, hy1, hy3, gd, ⟨gk, hk⟩, he3, hf3, hu2, hx7, hi4, hs⟩ := hc
    simp only at gt gu ht2 hx2 hy1 hy3 gd gk hk he3 hf3 hu2 hx7 hi4 hs a3 a4 a5 a7 a8 a9 a10
    subst ht2 hx2 hy1 hy3 he3 hf3 hu2 hx7 hi4 hs
    obtain ⟨jn, rfl⟩ : ∃ jn : Nat, j = (jn : Int) := ⟨j.toNat, by omega⟩
    obtain ⟨qn, rfl⟩ : ∃ qn : Nat, q = (qn : Int) := ⟨q.toNat, by omega⟩
    obtain ⟨bn, rfl⟩ : ∃ bn : Nat, b = (bn : Int) := ⟨b.toNat, by omega⟩
    have hj : (jn = 0 ∧ (if (jn : Int) = 0 then 0 else 2 + n) = 0) ∨ (jn = 1 ∧ (if (jn : Int) = 0 then 0 else 2 + n) = 2 + n) := by
      have : jn = 0 ∨ jn = 1 := by omega
      rcases this with rfl | rfl
      · exact .inl ⟨rfl, by simp⟩
      · exact .inr ⟨rfl, by simp⟩
    exact laws_FnSectors.walk k A0 c0 l0 A1 c1 l1 w hr0 hc0 hr1 hc1 z0 z1 p e n m1 m2 qn bn jn d t u y2 e2 f2 e1 f1 i1 i2 i3 s1 _ (min d.size 27) gp0 gp1 ge0 ge1 gn0 gn1 (by omega) (by omega) gm0 gm1 gm2 gm3 ap ae an aj (by omega) hj aq ab am1 am2 ad gd rfl _ rfl
      (by rw [ByteArray.size_extract]; omega) a1 a2 gt a3 gk hk a4 a5 a6 gu a7 a8 a9 a10


end Go.Proofs.Ytmjbacnioncicaa.XF
