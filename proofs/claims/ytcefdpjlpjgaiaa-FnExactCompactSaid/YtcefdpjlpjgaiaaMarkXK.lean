import Derived.Test.YtcefdpjlpjgaiaaXKHmarkForest
import Derived.Test.YtcefdpjlpjgaiaaSepK
/-! What a law's marks are, in a forest whose rows all lie apart. -/
namespace Go.Proofs.Ytcefdpjlpjgaiaa.XK.MX
open Go Go.RowKit Go.Proofs.YtcefdpjlpjgaiaaW.PrintWords Go.Proofs.YtcefdpjlpjgaiaaW.PrintLast Go.Proofs.YtcefdpjlpjgaiaaW.PrintMore
set_option linter.unusedVariables false
set_option linter.unusedSimpArgs false
/-- A mark's text. -/
def mt (a : Int) : ByteArray := (laws_markText.f 70 a).getD ⟨#[]⟩
theorem text_from (d : Nat) : ∀ (a : Int) (t : ByteArray), 0 ≤ a → a < (10 : Int) ^ d → a ≤ 4611686018427387904 → (t.size : Int) + d ≤ 4611686018427387904 → ∃ r, laws_markText.l0 (d + 1) a t = some r := by
  induction d with
  | zero =>
    intro a t h0 h1 hb h2
    have : a = 0 := by omega
    subst this
    rw [laws_markText.l0.eq_2, if_neg (by omega), if_pos (by omega)]
    exact ⟨_, rfl⟩
  | succ d ih =>
    intro a t h0 h1 hb h2
    by_cases hp : a > 0
    · have hp10 : (10 : Int) ^ (d + 1) = 10 ^ d * 10 := Int.pow_succ 10 d
      have hlt : a / 10 < 10 ^ d := by omega
      have hs : ((strOfNums [wrap64 (48 + Int.tmod a 10) % 256] ++ t).size : Int) = 1 + t.size := by
        rw [ByteArray.size_append, laws_markForest.one_size]
        omega
      have hw : wrap64 (Int.tdiv a 10) = a / 10 := by
        rw [Int.tdiv_eq_ediv_of_nonneg h0]
        unfold wrap64
        omega
      obtain ⟨r, hr⟩ := ih (a / 10) (strOfNums [wrap64 (48 + Int.tmod a 10) % 256] ++ t) (by omega) hlt (by omega) (by rw [hs]; omega)
      refine ⟨r, ?_⟩
      rw [show d + 1 + 1 = (d + 1) + 1 from rfl]
      rw [laws_markText.l0.eq_2]
      simp only [Option.bind_some]
      rw [if_pos hp, if_pos (by rw [laws_markForest.one_size]; omega), hw]
      exact hr
    · rw [laws_markText.l0.eq_2, if_neg hp, if_pos (by omega)]
      exact ⟨_, rfl⟩
theorem mt_is (a : Int) (h : a ≤ 4611686018427387904) : laws_markText.f 70 a = some (mt a) := by
  have h1 : ∃ r, laws_markText.f 70 a = some r := by
    unfold laws_markText.f
    by_cases h0 : a ≤ 0
    · exact ⟨_, if_pos h0⟩
    · obtain ⟨r, hr⟩ := text_from 69 a ⟨#[]⟩ (by omega) (by omega) h (by show ((0 : Nat) : Int) + _ ≤ _; omega)
      exact ⟨r, (if_neg h0).trans hr⟩
  obtain ⟨r, hr⟩ := h1
  rw [mt, hr]
  rfl
def strs (a : Int) (n : Nat) : List ByteArray := (List.range n).map (fun (j : Nat) => mt (a + (j : Int)))
def ints (a : Int) (n : Nat) : List Int := (List.range n).map (fun (j : Nat) => a + (j : Int))
theorem strs_len (a : Int) (n : Nat) : (strs a n).length = n := by simp [strs]
theorem ints_len (a : Int) (n : Nat) : (ints a n).length = n := by simp [ints]
/-- A list whose front is told anew, a place more. -/
theorem front {α : Type} (g : Nat → α) (xs : List α) (i : Nat) (h : i < xs.length) : ((List.range i).map g ++ xs.drop i).set i (g i) = (List.range (i + 1)).map g ++ xs.drop (i + 1) := by
  rw [List.range_succ, List.map_append, List.append_assoc, List.set_append_right _ _ (by simp)]
  have hl : ((List.range i).map g).length = i := by simp
  rw [hl, Nat.sub_self, List.drop_eq_getElem_cons h]
  rfl
theorem front_get {α : Type} (g : Nat → α) (xs : List α) (i : Nat) (z : α) : ((List.range i).map g ++ xs.drop i).getD i z = xs.getD i z := by
  simp [List.getD_eq_getElem?_getD, List.getElem?_append_right]
theorem front_all {α : Type} (g : Nat → α) (xs : List α) : (List.range xs.length).map g ++ xs.drop xs.length = (List.range xs.length).map g := by simp
theorem front_len {α : Type} (g : Nat → α) (xs : List α) (i : Nat) (h : i ≤ xs.length) : ((List.range i).map g ++ xs.drop i).length = xs.length := by simp; omega
theorem kept_trans {w1 w2 w3 : World} {S : Nat → Prop} (h : Kept w1 w2 S) (k : Kept w2 w3 S) : Kept w1 w3 S :=
  ⟨Nat.le_trans h.1 k.1, fun i hi hn => (k.2 i (Nat.lt_of_lt_of_le hi h.1) hn).trans (h.2 i hi hn)⟩
theorem kept_set (w : World) (g j : Nat) (v : Value) (S : Nat → Prop) (h : S g) : Kept w (w.setCell ⟨g, j, none⟩ v) S :=
  ⟨by simp [World.setCell], fun i _ hn => Below.heap_setCell w ⟨g, j, none⟩ v i (fun e => hn (by rw [e]; exact h))⟩
theorem below_set0 {base g j : Nat} (w : World) (v : Value) (h : base ≤ g) : Below base w (w.setCell ⟨g, j, none⟩ v) := (Below.refl base w).setCell (p := ⟨g, j, none⟩) h v
set_option maxHeartbeats 2000000 in
theorem ms (base : Nat) (ok : Nat → Prop) (v : Value) (xs : List ByteArray) (a : Int) (w : World) (hr : Kd.string.R 9 w base ok v xs) (h0 : 0 ≤ a) (h1 : a + (xs.length : Int) ≤ 4611686018427387904) (hlo : base ≤ w.heap.size) :
    Calls Try.prog 40 #[v, .int .i64 a] w fun e w' => e = .returned (.int .i64 (a + (xs.length : Int))) ∧ Kd.string.R 9 w' base ok v (strs a xs.length) ∧ Below base w w' ∧ Kept w w' (fun k => some k = v.ownBlock) := by
  obtain ⟨A, c, rfl⟩ := Kd.R_slice hr
  obtain ⟨n, hn⟩ : ∃ n, n = xs.length := ⟨_, rfl⟩
  rw [← hn] at hr h1 ⊢
  have HN := Aside0.mk hn
  have HR := Aside0.mk hr
  have HL := Aside0.mk hlo
  clear hr hn hlo
  go_enter Try.func40, Try.ntmps40
  go_wp2
  go_loopg [1, 5] n (fun gg s1 s5 wr => ∃ i : Nat, s1 = .int .i64 (a + (i : Int)) ∧ s5 = .int .i64 (i : Int) ∧ Aside0 (i ≤ n ∧ n ≤ i + gg) ∧ Aside0 (Kd.string.R 9 wr base ok (.slice A n c) (strs a i ++ xs.drop i)) ∧ Aside0 (Below base w wr) ∧ Aside0 (Kept w wr (fun k => some k = (Value.slice A n c).ownBlock)))
  case atStart => exact ⟨0, by simp, rfl, ⟨by omega⟩, ⟨by simpa [strs] using HR.out⟩, ⟨Below.refl _ _⟩, ⟨Kept.refl _ _⟩⟩
  case round =>
    clear HR
    obtain ⟨i, rfl, rfl, HI, HA, HB, HK⟩ := hrel
    by_cases hin : i < n
    · have c1 : decide ((i : Int) < (n : Int)) = true := decide_eq_true (by omega)
      cases A with
      | none =>
        exfalso
        rcases HA.out.2.choose_spec.1.2 with ⟨e, hz⟩ | ⟨g, cap, cur, e, _⟩
        · injection e with e1 e2 e3; omega
        · cases e
      | some ad =>
      obtain ⟨g, rfl⟩ := Kd.R_head HA.out
      obtain ⟨cs, hcl, hM, hcc, hfr⟩ := Kd.R_elem HA.out ⟨#[]⟩ (i : Int) (by omega) (by omega)
      obtain ⟨sx, hsx⟩ : ∃ sx, sx = (strs a i ++ xs.drop i).getD (i : Int).toNat ⟨#[]⟩ := ⟨_, rfl⟩
      rw [← hsx] at hM
      have hM' : cs = [.string sx] := hM
      subst hM'
      have hz0 : wr.cell? ⟨g, i, none⟩ = some (.string sx) := by
        have := hcc 0 _ rfl
        simpa [show Kd.string.sz = 1 from rfl] using this
      have hf0 : wr.frozen? ⟨g, i, none⟩ = false := by
        have := hfr 0
        simpa [show Kd.string.sz = 1 from rfl] using this
      clear hcl hM hcc hfr
      clear hsx
      have hlt : (⟨g, i, none⟩ : Addr).block < wr.heap.size := Kd.R_lt HA.out g (by simp [Value.ownBlock])
      have hbi := Kd.R_base HA.out g (by simp [Value.ownBlock])
      have HT := Aside0.mk (mt_is (a + (i : Int)) (by omega))
      have hz := Aside0.mk hz0
      have hf := Aside0.mk hf0
      have p1 : (0 : Int) ≤ (i : Int) := by omega
      have p2 : (i : Int) < (n : Int) := by omega
      have hw1 : wrap64 (a + (i : Int) + 1) = a + ((i + 1 : Nat) : Int) := by unfold wrap64; omega
      have hw2 : wrap64 ((i : Int) + 1) = ((i + 1 : Nat) : Int) := by unfold wrap64; omega
      clear hz0 hf0
      go_wp2_with (go_at_call 53; (with_reducible refine (laws_markText.calls 70 (a + (i : Int)) _ _ HT.out).mono ?_); rintro e w2 ⟨rfl, hd⟩; have D := Aside0.mk hd; clear hd; have HA2 := Aside0.mk (Kd.R_below HA.out D.out); have hz2 := (D.out.cell hlt).trans hz.out; have hf2 := (D.out.frozen hlt).trans hf.out)
      go_roundg (gk - 1)
      case measure => have := HI.out; omega
      case rel =>
        have hput := Kd.R_putn HA2.out (i : Int) (mt (a + (i : Int)))
        rw [Int.toNat_natCast, show strs a i = (List.range i).map (fun (j : Nat) => mt (a + (j : Int))) from rfl, front (fun (j : Nat) => mt (a + (j : Int))) xs i (by have := HN.out; omega)] at hput
        exact ⟨i + 1, by first | rfl | (rw [hw1]; done) | (congr 1; push_cast; omega), by first | rfl | (rw [hw2]; done) | (congr 1; omega), ⟨by have := HI.out; omega⟩, ⟨hput⟩,
          ⟨(HB.out.trans (D.out.mono (Nat.le_trans HL.out HB.out.size))).trans (below_set0 _ _ hbi)⟩, ⟨kept_trans (kept_trans HK.out (Kept.of_below D.out _)) (kept_set _ _ _ _ _ (by simp [Value.ownBlock]))⟩⟩
    · have c1 : decide ((i : Int) < (n : Int)) = false := decide_eq_false (by omega)
      have hni : i = n := by have := HI.out; omega
      subst hni
      go_wp2
      go_ret
      refine ⟨rfl, ?_, HB.out, HK.out⟩
      have h := HA.out
      rw [HN.out] at h ⊢
      rw [show strs a xs.length = (List.range xs.length).map (fun (j : Nat) => mt (a + (j : Int))) from rfl, front_all] at h
      exact h
set_option maxHeartbeats 2000000 in
theorem mi (base : Nat) (ok : Nat → Prop) (v : Value) (xs : List Int) (a : Int) (w : World) (hr : (Kd.int .i64).R 3 w base ok v xs) (h0 : 0 ≤ a) (h1 : a + (xs.length : Int) ≤ 4611686018427387904) (hlo : base ≤ w.heap.size) :
    Calls Try.prog 13 #[v, .int .i64 a] w fun e w' => e = .returned (.int .i64 (a + (xs.length : Int))) ∧ (Kd.int .i64).R 3 w' base ok v (ints a xs.length) ∧ Below base w w' ∧ Kept w w' (fun k => some k = v.ownBlock) := by
  obtain ⟨A, c, rfl⟩ := Kd.R_slice hr
  obtain ⟨n, hn⟩ : ∃ n, n = xs.length := ⟨_, rfl⟩
  rw [← hn] at hr h1 ⊢
  have HN := Aside0.mk hn
  have HR := Aside0.mk hr
  have HL := Aside0.mk hlo
  clear hr hn hlo
  go_enter Try.func13, Try.ntmps13
  go_wp2
  go_loopg [1, 5] n (fun gg s1 s5 wr => ∃ i : Nat, s1 = .int .i64 (a + (i : Int)) ∧ s5 = .int .i64 (i : Int) ∧ Aside0 (i ≤ n ∧ n ≤ i + gg) ∧ Aside0 ((Kd.int .i64).R 3 wr base ok (.slice A n c) (ints a i ++ xs.drop i)) ∧ Aside0 (Below base w wr) ∧ Aside0 (Kept w wr (fun k => some k = (Value.slice A n c).ownBlock)))
  case atStart => exact ⟨0, by simp, rfl, ⟨by omega⟩, ⟨by simpa [ints] using HR.out⟩, ⟨Below.refl _ _⟩, ⟨Kept.refl _ _⟩⟩
  case round =>
    clear HR
    obtain ⟨i, rfl, rfl, HI, HA, HB, HK⟩ := hrel
    by_cases hin : i < n
    · have c1 : decide ((i : Int) < (n : Int)) = true := decide_eq_true (by omega)
      cases A with
      | none =>
        exfalso
        rcases HA.out.2.choose_spec.1.2 with ⟨e, hz⟩ | ⟨g, cap, cur, e, _⟩
        · injection e with e1 e2 e3; omega
        · cases e
      | some ad =>
      obtain ⟨g, rfl⟩ := Kd.R_head HA.out
      obtain ⟨cs, hcl, hM, hcc, hfr⟩ := Kd.R_elem HA.out 0 (i : Int) (by omega) (by omega)
      obtain ⟨sx, hsx⟩ : ∃ sx, sx = (ints a i ++ xs.drop i).getD (i : Int).toNat 0 := ⟨_, rfl⟩
      rw [← hsx] at hM
      have hM' : cs = [.int .i64 sx] := hM
      subst hM'
      have hz0 : wr.cell? ⟨g, i, none⟩ = some (.int .i64 sx) := by
        have := hcc 0 _ rfl
        simpa [show (Kd.int .i64).sz = 1 from rfl] using this
      have hf0 : wr.frozen? ⟨g, i, none⟩ = false := by
        have := hfr 0
        simpa [show (Kd.int .i64).sz = 1 from rfl] using this
      clear hcl hM hcc hfr
      clear hsx
      have hlt : (⟨g, i, none⟩ : Addr).block < wr.heap.size := Kd.R_lt HA.out g (by simp [Value.ownBlock])
      have hbi := Kd.R_base HA.out g (by simp [Value.ownBlock])
      have p1 : (0 : Int) ≤ (i : Int) := by omega
      have p2 : (i : Int) < (n : Int) := by omega
      have hw1 : wrap64 (a + (i : Int) + 1) = a + ((i + 1 : Nat) : Int) := by unfold wrap64; omega
      have hw2 : wrap64 ((i : Int) + 1) = ((i + 1 : Nat) : Int) := by unfold wrap64; omega
      go_wp2
      go_roundg (gk - 1)
      case measure => have := HI.out; omega
      case rel =>
        have hput := Kd.R_putn HA.out (i : Int) (a + (i : Int))
        rw [Int.toNat_natCast, show ints a i = (List.range i).map (fun (j : Nat) => a + (j : Int)) from rfl, front (fun (j : Nat) => a + (j : Int)) xs i (by have := HN.out; omega)] at hput
        exact ⟨i + 1, by first | rfl | (rw [hw1]; done) | (congr 1; push_cast; omega), by first | rfl | (rw [hw2]; done) | (congr 1; omega), ⟨by have := HI.out; omega⟩, ⟨hput⟩,
          ⟨HB.out.trans (below_set0 _ _ hbi)⟩, ⟨kept_trans HK.out (kept_set _ _ _ _ _ (by simp [Value.ownBlock]))⟩⟩
    · have c1 : decide ((i : Int) < (n : Int)) = false := decide_eq_false (by omega)
      have hni : i = n := by have := HI.out; omega
      subst hni
      go_wp2
      go_ret
      refine ⟨rfl, ?_, HB.out, HK.out⟩
      have h := HA.out
      rw [HN.out] at h ⊢
      rw [show ints a xs.length = (List.range xs.length).map (fun (j : Nat) => a + (j : Int)) from rfl, front_all] at h
      exact h
/-- A node marked from t on. -/
def one (t : Int) (x : S58) : S58 := ⟨t % 3 == 0, strs (t + 1) x.f1.length, strs (t + 1 + (x.f1.length : Int)) x.f2.length, ints (t + 1 + (x.f1.length : Int) + (x.f2.length : Int)) x.f3.length⟩
def at_ (a : Int) (xs : List S58) (i : Nat) : Int := a + ((laws_markForest.tot (laws_markForest.F xs) i : Nat) : Int)
def mk (a : Int) (xs : List S58) : List S58 := (List.range xs.length).map (fun i => one (at_ a xs i) (xs.getD i z58))
theorem mk_len (a : Int) (xs : List S58) : (mk a xs).length = xs.length := by simp [mk]
theorem setCells_one (w : World) (g o : Nat) (v : Value) : w.setCells g o [v] = w.setCell ⟨g, o, none⟩ v := rfl
theorem wr1 (T : Int) (h0 : 0 ≤ T) (h1 : T ≤ 4611686018427387904) : wrap64 (T + 1) = T + 1 := by unfold wrap64; omega
theorem wr2 (i n : Nat) (h0 : i < n) (h1 : n ≤ 1099511627776) : wrap64 ((i : Int) + 1) = ((i + 1 : Nat) : Int) := by unfold wrap64; omega
/-- Element i lent out: its own rows, and the row about it. -/
structure Lent (base : Nat) (ok : Nat → Prop) (n c g i : Nat) (ys : List S58) (oki o1 o2 o3 : Nat → Prop) (v1 v2 v3 : Value) (w : World) (b : Bool) (l1 l2 : List ByteArray) (l3 : List Int) : Prop where
  hin : i < n
  hb : base ≤ g
  q0 : ∀ k, oki k → ok k ∧ k ≠ g
  q1 : ∀ k, o1 k → oki k
  q2 : ∀ k, o2 k → oki k ∧ ¬ o1 k
  q3 : ∀ k, o3 k → (oki k ∧ ¬ o1 k) ∧ ¬ o2 k
  h : Kd.H kx 58 w base ok (.slice (some ⟨g, 0, none⟩) n c) ys (i : Int) oki [.bool b, v1, v2, v3]
  r1 : Kd.string.R 9 w base o1 v1 l1
  r2 : Kd.string.R 9 w base o2 v2 l2
  r3 : (Kd.int .i64).R 3 w base o3 v3 l3
section
variable {base n c g i : Nat} {ok oki o1 o2 o3 : Nat → Prop} {ys : List S58} {v1 v2 v3 : Value} {w w' : World} {b : Bool} {l1 l2 : List ByteArray} {l3 : List Int}
theorem lend {A : Option Addr} (h : Kd.S kx 58 w base ok (.slice A n c) ys) (i : Nat) (hi : i < n) :
    ∃ g oki o1 o2 o3 v1 v2 v3, A = some ⟨g, 0, none⟩ ∧ Lent base ok n c g i ys oki o1 o2 o3 v1 v2 v3 w (ys.getD i z58).f0 (ys.getD i z58).f1 (ys.getD i z58).f2 (ys.getD i z58).f3 := by
  have hn := (Kd.S_reads' h).1
  obtain ⟨g, cap, e, hbg, hgl, _⟩ := Kd.S_form h (by omega)
  injection e with e1 e2 e3
  subst e1
  obtain ⟨oki, cs, hcl, hM, hcc, hfr, hoki, hH⟩ := Kd.S_elem h z58 (i : Int) (by omega) (by omega)
  rw [Int.toNat_natCast] at hM
  obtain ⟨v1, v2, v3, o1, o2, o3, rfl, q1, q2, q3, r1, r2, r3⟩ := kx_open hM
  exact ⟨g, oki, o1, o2, o3, v1, v2, v3, rfl, ⟨hi, hbg, hoki, q1, q2, q3, hH, r1, r2, r3⟩⟩
theorem Lent.cells (L : Lent base ok n c g i ys oki o1 o2 o3 v1 v2 v3 w b l1 l2 l3) : w.cell? ⟨g, i * 4, none⟩ = some (.bool b) ∧ w.cell? ⟨g, i * 4 + 1, none⟩ = some v1 ∧ w.cell? ⟨g, i * 4 + 2, none⟩ = some v2 ∧ w.cell? ⟨g, i * 4 + 3, none⟩ = some v3 ∧ w.frozen? ⟨g, i * 4, none⟩ = false := by
  have hi := L.hin
  obtain ⟨hc, hf⟩ := Kd.H_at L.h (by omega) (by omega)
  rw [Int.toNat_natCast, kx_sz] at hc hf
  exact ⟨hc 0 _ rfl, hc 1 _ rfl, hc 2 _ rfl, hc 3 _ rfl, hf 0⟩
theorem Lent.bool (L : Lent base ok n c g i ys oki o1 o2 o3 v1 v2 v3 w b l1 l2 l3) (x : Bool) : Lent base ok n c g i ys oki o1 o2 o3 v1 v2 v3 (w.setCell ⟨g, i * 4, none⟩ (.bool x)) x l1 l2 l3 := by
  have hi := L.hin
  obtain ⟨h1, _⟩ := Kd.H_seg L.h (by omega) (by omega) (seg := [.bool x]) (j := 0) (by show 0 + 1 ≤ 4; decide) (by intro q hq; rw [List.mem_singleton.1 hq]; rfl)
  rw [Int.toNat_natCast, kx_sz, setCells_one] at h1
  have far : ∀ k, oki k → (w.setCell ⟨g, i * 4, none⟩ (.bool x)).heap[k]? = w.heap[k]? := fun k hk => Below.heap_setCell w ⟨g, i * 4, none⟩ _ k (L.q0 k hk).2
  exact ⟨hi, L.hb, L.q0, L.q1, L.q2, L.q3, h1, Kd.R_move L.r1 (fun k hk => far k (L.q1 k hk)), Kd.R_move L.r2 (fun k hk => far k (L.q2 k hk).1), Kd.R_move L.r3 (fun k hk => far k (L.q3 k hk).1.1)⟩
theorem Lent.one (L : Lent base ok n c g i ys oki o1 o2 o3 v1 v2 v3 w b l1 l2 l3) {l : List ByteArray} (hk : Kept w w' (fun k => some k = v1.ownBlock)) (hr : Kd.string.R 9 w' base o1 v1 l) : Lent base ok n c g i ys oki o1 o2 o3 v1 v2 v3 w' b l l2 l3 := by
  have ho : ∀ k, ¬ o1 k → k < w.heap.size → w'.heap[k]? = w.heap[k]? := fun k hn hl => hk.2 k hl (fun e => hn (L.r1.1 k e.symm))
  exact ⟨L.hin, L.hb, L.q0, L.q1, L.q2, L.q3, Kd.H_step L.h (fun k _ hn hl => ho k (fun h => hn (L.q1 k h)) hl), hr, Kd.R_step L.r2 (fun k h hl => ho k (L.q2 k h).2 hl), Kd.R_step L.r3 (fun k h hl => ho k (L.q3 k h).1.2 hl)⟩
theorem Lent.two (L : Lent base ok n c g i ys oki o1 o2 o3 v1 v2 v3 w b l1 l2 l3) {l : List ByteArray} (hk : Kept w w' (fun k => some k = v2.ownBlock)) (hr : Kd.string.R 9 w' base o2 v2 l) : Lent base ok n c g i ys oki o1 o2 o3 v1 v2 v3 w' b l1 l l3 := by
  have ho : ∀ k, ¬ o2 k → k < w.heap.size → w'.heap[k]? = w.heap[k]? := fun k hn hl => hk.2 k hl (fun e => hn (L.r2.1 k e.symm))
  exact ⟨L.hin, L.hb, L.q0, L.q1, L.q2, L.q3, Kd.H_step L.h (fun k _ hn hl => ho k (fun h => hn (L.q2 k h).1) hl), Kd.R_step L.r1 (fun k h hl => ho k (fun h2 => (L.q2 k h2).2 h) hl), hr, Kd.R_step L.r3 (fun k h hl => ho k (L.q3 k h).2 hl)⟩
theorem Lent.three (L : Lent base ok n c g i ys oki o1 o2 o3 v1 v2 v3 w b l1 l2 l3) {l : List Int} (hk : Kept w w' (fun k => some k = v3.ownBlock)) (hr : (Kd.int .i64).R 3 w' base o3 v3 l) : Lent base ok n c g i ys oki o1 o2 o3 v1 v2 v3 w' b l1 l2 l := by
  have ho : ∀ k, ¬ o3 k → k < w.heap.size → w'.heap[k]? = w.heap[k]? := fun k hn hl => hk.2 k hl (fun e => hn (L.r3.1 k e.symm))
  exact ⟨L.hin, L.hb, L.q0, L.q1, L.q2, L.q3, Kd.H_step L.h (fun k _ hn hl => ho k (fun h => hn (L.q3 k h).1.1) hl), Kd.R_step L.r1 (fun k h hl => ho k (fun h2 => (L.q3 k h2).1.2 h) hl), Kd.R_step L.r2 (fun k h hl => ho k (fun h2 => (L.q3 k h2).2 h) hl), hr⟩
theorem Lent.back (L : Lent base ok n c g i ys oki o1 o2 o3 v1 v2 v3 w b l1 l2 l3) : Kd.S kx 58 w base ok (.slice (some ⟨g, 0, none⟩) n c) (ys.set i ⟨b, l1, l2, l3⟩) := by
  have h := Kd.H_back L.h (kx_mk w base oki o1 o2 o3 ⟨b, l1, l2, l3⟩ L.q1 L.q2 L.q3 L.r1 L.r2 L.r3) (fun _ hk => hk)
  rw [Int.toNat_natCast] at h
  exact h
end
/-- What a round leaves. -/
structure Left (base : Nat) (ok : Nat → Prop) (n c g : Nat) (zs : List S58) (w w' : World) : Prop where
  s : Kd.S kx 58 w' base ok (.slice (some ⟨g, 0, none⟩) n c) zs
  b : Below base w w'
  k : Kept w w' ok
set_option maxHeartbeats 1000000 in
/-- A round's calls, one behind the other. -/
theorem steps {A : Option Addr} {base n c : Nat} {ok : Nat → Prop} {ys : List S58} {w : World} (h : Kd.S kx 58 w base ok (.slice A n c) ys) (hlo : base ≤ w.heap.size) (hok : ∀ k, ok k → base ≤ k) (hog : ∀ g, A = some ⟨g, 0, none⟩ → ok g) (i : Nat) (hi : i < n) (T : Int) (x : S58) (hx : x = ys.getD i z58) (h0 : 0 ≤ T) (h1 : T + 1 + (x.f1.length : Int) + (x.f2.length : Int) + (x.f3.length : Int) ≤ 4611686018427387904) :
    ∃ (g : Nat) (AK : Option Addr) (cK : Nat) (AV : Option Addr) (cV : Nat) (AD : Option Addr) (cD : Nat) (S1 S2 : World → Prop), A = some ⟨g, 0, none⟩ ∧
      w.cell? ⟨g, i * 4, none⟩ = some (.bool x.f0) ∧ w.cell? ⟨g, i * 4 + 1, none⟩ = some (.slice AK x.f1.length cK) ∧ w.frozen? ⟨g, i * 4, none⟩ = false ∧
      (Calls Try.prog 40 #[.slice AK x.f1.length cK, .int .i64 (T + 1)] (w.setCell ⟨g, i * 4, none⟩ (.bool (T % 3 == 0))) fun e w2 => e = .returned (.int .i64 (T + 1 + (x.f1.length : Int))) ∧ S1 w2 ∧ w2.cell? ⟨g, i * 4 + 2, none⟩ = some (.slice AV x.f2.length cV)) ∧
      (∀ w2, S1 w2 → Calls Try.prog 40 #[.slice AV x.f2.length cV, .int .i64 (T + 1 + (x.f1.length : Int))] w2 fun e w3 => e = .returned (.int .i64 (T + 1 + (x.f1.length : Int) + (x.f2.length : Int))) ∧ S2 w3 ∧ w3.cell? ⟨g, i * 4 + 3, none⟩ = some (.slice AD x.f3.length cD)) ∧
      (∀ w3, S2 w3 → Calls Try.prog 13 #[.slice AD x.f3.length cD, .int .i64 (T + 1 + (x.f1.length : Int) + (x.f2.length : Int))] w3 fun e w4 => e = .returned (.int .i64 (T + 1 + (x.f1.length : Int) + (x.f2.length : Int) + (x.f3.length : Int))) ∧ Left base ok n c g (ys.set i (one T x)) w w4) := by
  obtain ⟨g, oki, o1, o2, o3, v1, v2, v3, rfl, L⟩ := lend h i hi
  rw [← hx] at L
  obtain ⟨AK, cK, rfl⟩ := Kd.R_slice L.r1
  obtain ⟨AV, cV, rfl⟩ := Kd.R_slice L.r2
  obtain ⟨AD, cD, rfl⟩ := Kd.R_slice L.r3
  have hgok : ok g := hog g rfl
  refine ⟨g, AK, cK, AV, cV, AD, cD,
    fun w2 => Lent base ok n c g i ys oki o1 o2 o3 (.slice AK x.f1.length cK) (.slice AV x.f2.length cV) (.slice AD x.f3.length cD) w2 (T % 3 == 0) (strs (T + 1) x.f1.length) x.f2 x.f3 ∧ Below base w w2 ∧ Kept w w2 ok,
    fun w3 => Lent base ok n c g i ys oki o1 o2 o3 (.slice AK x.f1.length cK) (.slice AV x.f2.length cV) (.slice AD x.f3.length cD) w3 (T % 3 == 0) (strs (T + 1) x.f1.length) (strs (T + 1 + (x.f1.length : Int)) x.f2.length) x.f3 ∧ Below base w w3 ∧ Kept w w3 ok,
    rfl, L.cells.1, L.cells.2.1, L.cells.2.2.2.2, ?_, ?_, ?_⟩
  · have L1 := L.bool (T % 3 == 0)
    have B1 := below_set0 (j := i * 4) w (.bool (T % 3 == 0)) L.hb
    have K1 := kept_set w g (i * 4) (.bool (T % 3 == 0)) ok hgok
    refine (ms base o1 _ x.f1 (T + 1) _ L1.r1 (by omega) (by omega) (Nat.le_trans hlo B1.size)).mono ?_
    rintro e w2 ⟨rfl, hr, hb, hk⟩
    have L2 := L1.one hk hr
    exact ⟨rfl, ⟨L2, B1.trans hb, kept_trans K1 ⟨hk.1, fun k hl hn => hk.2 k hl (fun e => hn (L.q0 k (L.q1 k (L.r1.1 k e.symm))).1)⟩⟩, L2.cells.2.2.1⟩
  · rintro w2 ⟨L2, B2, K2⟩
    refine (ms base o2 _ x.f2 (T + 1 + (x.f1.length : Int)) _ L2.r2 (by omega) (by omega) (Nat.le_trans hlo B2.size)).mono ?_
    rintro e w3 ⟨rfl, hr, hb, hk⟩
    have L3 := L2.two hk hr
    exact ⟨rfl, ⟨L3, B2.trans hb, kept_trans K2 ⟨hk.1, fun k hl hn => hk.2 k hl (fun e => hn (L.q0 k (L.q2 k (L2.r2.1 k e.symm)).1).1)⟩⟩, L3.cells.2.2.2.1⟩
  · rintro w3 ⟨L3, B3, K3⟩
    refine (mi base o3 _ x.f3 (T + 1 + (x.f1.length : Int) + (x.f2.length : Int)) _ L3.r3 (by omega) (by omega) (Nat.le_trans hlo B3.size)).mono ?_
    rintro e w4 ⟨rfl, hr, hb, hk⟩
    have L4 := L3.three hk hr
    exact ⟨rfl, L4.back, B3.trans hb, kept_trans K3 ⟨hk.1, fun k hl hn => hk.2 k hl (fun e => hn (L.q0 k (L.q3 k (L3.r3.1 k e.symm)).1.1).1)⟩⟩
set_option maxHeartbeats 4000000 in
theorem mn (base : Nat) (ok : Nat → Prop) (v : Value) (xs : List S58) (a : Int) (w : World) (hr : Kd.S kx 58 w base ok v xs) (hok : ∀ k, ok k → base ≤ k) (h0 : 0 ≤ a) (h1 : at_ a xs xs.length ≤ 4611686018427387904) (h2 : xs.length ≤ 1099511627776) (hlo : base ≤ w.heap.size) :
    Calls Try.prog 25 #[v, .int .i64 a] w fun e w' => e = .returned (.int .i64 (at_ a xs xs.length)) ∧ Kd.S kx 58 w' base ok v (mk a xs) ∧ Below base w w' ∧ Kept w w' ok := by
  obtain ⟨A, c, rfl⟩ := Kd.S_slice hr
  obtain ⟨n, hn⟩ : ∃ n, n = xs.length := ⟨_, rfl⟩
  rw [← hn] at hr h1 h2 ⊢
  have HN := Aside0.mk hn
  have HR := Aside0.mk hr
  have HL := Aside0.mk hlo
  have HO := Aside0.mk hok
  have H1 := Aside0.mk h1
  clear hr hn hlo hok h1
  go_enter Try.func25, Try.ntmps25
  go_wp2
  go_loopg [1, 5] n (fun gg s1 s5 wr => ∃ (i : Nat) (ys : List S58), s1 = .int .i64 (at_ a xs i) ∧ s5 = .int .i64 (i : Int) ∧ Aside0 (i ≤ n ∧ n ≤ i + gg) ∧ Aside0 (ys = (List.range i).map (fun i => one (at_ a xs i) (xs.getD i z58)) ++ xs.drop i) ∧ Aside0 (Kd.S kx 58 wr base ok (.slice A n c) ys) ∧ Aside0 (Below base w wr) ∧ Aside0 (Kept w wr ok))
  case atStart => exact ⟨0, xs, by simp [at_, laws_markForest.tot], rfl, ⟨by omega⟩, ⟨by simp⟩, HR, ⟨Below.refl _ _⟩, ⟨Kept.refl _ _⟩⟩
  case round =>
    clear HR
    obtain ⟨i, ys, rfl, rfl, HI, HY, HA, HB, HK⟩ := hrel
    by_cases hin : i < n
    · have c1 : decide ((i : Int) < (n : Int)) = true := decide_eq_true (by omega)
      obtain ⟨x, hx⟩ : ∃ x, x = ys.getD i z58 := ⟨_, rfl⟩
      have hx2 : x = xs.getD i z58 := by rw [hx, HY.out, front_get]
      have hstep : at_ a xs (i + 1) = at_ a xs i + 1 + (x.f1.length : Int) + (x.f2.length : Int) + (x.f3.length : Int) := by
        have : laws_markForest.F xs i = 1 + x.f1.length + x.f2.length + x.f3.length := by rw [hx2]; rfl
        unfold at_
        rw [laws_markForest.tot, this]
        omega
      have hle : at_ a xs (i + 1) ≤ at_ a xs n := by
        unfold at_
        have := laws_markForest.tot_le (laws_markForest.F xs) (i + 1) n (by omega)
        omega
      have hT0 : 0 ≤ at_ a xs i := by unfold at_; omega
      have hbound : at_ a xs i + 1 + (x.f1.length : Int) + (x.f2.length : Int) + (x.f3.length : Int) ≤ 4611686018427387904 := by have := H1.out; omega
      obtain ⟨T, hT⟩ : ∃ T : Int, T = at_ a xs i := ⟨_, rfl⟩
      rw [← hT] at hT0 hbound hstep ⊢
      have hw0 := wr1 T hT0 (by omega)
      have hw2 := wr2 i n hin h2
      obtain ⟨g, AK, cK, AV, cV, AD, cD, S1, S2, rfl, hz0, hz1, hf0, P1, P2, P3⟩ := steps HA.out (Nat.le_trans HL.out HB.out.size) HO.out (fun g e => by subst e; exact HA.out.choose_spec.1 g (by simp [Value.ownBlock])) i hin T x hx hT0 hbound
      have HS := Aside0.mk (And.intro hstep (And.intro hT hx2))
      have Q1 := Aside0.mk P1
      have Q2 := Aside0.mk P2
      have Q3 := Aside0.mk P3
      have p1 : (0 : Int) ≤ (i : Int) := Int.natCast_nonneg i
      have p2 : (i : Int) < (n : Int) := Int.ofNat_lt.2 hin
      clear P1 P2 P3 hstep hT hx hx2 hle hbound
      go_wp2_with (first
        | (go_at_call 40; (have g_ := Q1; clear g_); (with_reducible refine Q1.out.mono ?_); rintro e w2 ⟨rfl, hs, hz2⟩; have T1 := Aside0.mk hs; clear hs Q1)
        | (go_at_call 40; (with_reducible refine (Q2.out _ T1.out).mono ?_); rintro e w3 ⟨rfl, hs, hz3⟩; have T2 := Aside0.mk hs; clear hs Q2)
        | (go_at_call 13; (with_reducible refine (Q3.out _ T2.out).mono ?_); rintro e w4 ⟨rfl, hs⟩; have LF := Aside0.mk hs; clear hs Q3))
      go_roundg (gk - 1)
      case measure => have := HI.out; omega
      case rel =>
        obtain ⟨e1, e2, e3⟩ := HS.out
        refine ⟨i + 1, _, by rw [e1], by first | rfl | (rw [hw2]; done), ⟨by have := HI.out; omega⟩, ⟨?_⟩, ⟨LF.out.s⟩, ⟨HB.out.trans LF.out.b⟩, ⟨kept_trans HK.out LF.out.k⟩⟩
        have hf := front (fun i => one (at_ a xs i) (xs.getD i z58)) xs i (by have := HN.out; omega)
        rw [HY.out, e3, e2]
        exact hf
    · have c1 : decide ((i : Int) < (n : Int)) = false := decide_eq_false (by omega)
      have hni : i = n := by have := HI.out; omega
      subst hni
      go_wp2
      go_ret
      refine ⟨rfl, ?_, HB.out, HK.out⟩
      have h := HA.out
      rw [HY.out, HN.out, front_all] at h
      rw [HN.out]
      exact h
set_option maxHeartbeats 2000000 in
theorem mf (base : Nat) (ok : Nat → Prop) (v : Value) (xs : List S58) (a : Int) (w : World) (hr : Kd.S kx 58 w base ok v xs) (hok : ∀ k, ok k → base ≤ k ∧ k < w.heap.size) (h0 : 0 ≤ a) (h1 : at_ a xs xs.length ≤ 4611686018427387904) (h2 : xs.length ≤ 1099511627776) (hlo : base ≤ w.heap.size) :
    Calls Try.prog 12 #[.agg #[v], .int .i64 a] w fun e w' => e = .returned (.int .i64 (at_ a xs xs.length)) ∧ Kd.S kx 58 w' base ok v (mk a xs) ∧ Below base w w' ∧ Kept w w' ok := by
  have hM : ∀ W, Below w.heap.size w W → Calls Try.prog 25 #[v, .int .i64 a] W fun e w' => e = .returned (.int .i64 (at_ a xs xs.length)) ∧ Kd.S kx 58 w' base ok v (mk a xs) ∧ Below base w w' ∧ Kept w w' ok := fun W hB => by
    refine (mn base ok v xs a W (Kd.S_below hr hB) (fun k hk => (hok k hk).1) h0 h1 h2 (Nat.le_trans hlo hB.size)).mono ?_
    rintro e w' ⟨rfl, hs, hb, hk⟩
    exact ⟨rfl, hs, (hB.mono hlo).trans hb, kept_trans (Kept.of_below hB ok) hk⟩
  obtain ⟨A, c, rfl⟩ := Kd.S_slice hr
  obtain ⟨T, hT⟩ : ∃ T : Int, T = at_ a xs xs.length := ⟨_, rfl⟩
  rw [← hT] at hM ⊢
  have HM := Aside0.mk hM
  clear hM hr h1 h2 hT hok
  go_enter Try.func12, Try.ntmps12
  go_wp2_with (go_at_call 25; refine (HM.out _ ?al).mono ?_; (case al => first | exact Below.refl _ _ | (repeat (first | exact Below.refl _ _ | apply below_alloc | apply pw_below_drewN | apply below_drew1))); rintro e w2 ⟨rfl, hA⟩; have A2 := Aside0.mk hA; clear hA)
  go_ret
  exact ⟨rfl, A2.out⟩
end Go.Proofs.Ytcefdpjlpjgaiaa.XK.MX
