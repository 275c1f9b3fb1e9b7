-- Written for this claim: a contract of one function, proved by hand; the places of its template filled by a program.
import Derived.Test.YtnoalobmkecjpaaXN0
import Derived.Test.YtnoalobmkecjpaaXN1
import Derived.Test.YtnoalobmkecjpaaXN3
import Derived.Test.YtnoalobmkecjpaaXN6
import Derived.Lib.SlBy
import Derived.Lib.Walk
import Derived.Shelf.Abstract
namespace Go.Proofs.Ytnoalobmkecjpaa.XN
open Go Go.RowKit Go.Proofs.YtnoalobmkecjpaaW.PrintWords Go.Proofs.YtnoalobmkecjpaaW.PrintLast Go.Proofs.YtnoalobmkecjpaaW.PrintMore
set_option linter.unusedVariables false
set_option linter.unusedSimpArgs false
open Go.Proofs.Ytnoalobmkecjpaa.Xtra
abbrev laws_FnExactNewBase.V := S111
abbrev laws_FnExactNewBase.X := S115
/-- Four transactions' cells, the writes nil; how they read. -/
def laws_FnExactNewBase.flat : List (Bool × Int) → List Value
  | [] => []
  | x :: xs => .bool x.1 :: .int .i64 x.2 :: .slice none 0 0 :: laws_FnExactNewBase.flat xs
theorem laws_FnExactNewBase.flat_len : ∀ xs, (laws_FnExactNewBase.flat xs).length = xs.length * 3
  | [] => rfl
  | x :: xs => by simp only [laws_FnExactNewBase.flat, List.length_cons, laws_FnExactNewBase.flat_len xs]; omega
def laws_FnExactNewBase.at (kk : Nat) : List (Bool × Int) :=
  match kk with
  | 0 => [(false, 0), (false, 0), (false, 0), (false, 0)]
  | 1 => [(false, 2), (false, 0), (false, 0), (false, 0)]
  | 2 => [(false, 2), (true, 4), (false, 0), (false, 0)]
  | 3 => [(false, 2), (true, 4), (false, 6), (false, 0)]
  | _ => [(false, 2), (true, 4), (false, 6), (false, 8)]
def laws_FnExactNewBase.tx (x : Bool × Int) : laws_FnExactNewBase.X := ⟨x.1, x.2, []⟩
def laws_FnExactNewBase.S0 : Int × List laws_FnExactNewBase.V × List laws_FnExactNewBase.X := (spec_NewBase.f).getD (0, [], [])
theorem laws_FnExactNewBase.S0_is : spec_NewBase.f = some (laws_FnExactNewBase.S0.1, laws_FnExactNewBase.S0.2.1, laws_FnExactNewBase.S0.2.2) := by rfl
theorem laws_FnExactNewBase.same : laws_eqBase.f 20 0 [] ((laws_FnExactNewBase.at 0).map laws_FnExactNewBase.tx) laws_FnExactNewBase.S0.1 laws_FnExactNewBase.S0.2.1 laws_FnExactNewBase.S0.2.2 = some true := by decide +kernel
theorem laws_FnExactNewBase.held : laws_heldBase.f 20 0 [] ((laws_FnExactNewBase.at 4).map laws_FnExactNewBase.tx) 1 = some 9 := by decide +kernel
def laws_FnExactNewBase.f : Option Bool := some true
/-- A block of such cells is a row of four. -/
theorem laws_FnExactNewBase.reps (w : World) (base : Nat) (ok : Nat → Prop) : ∀ xs : List (Bool × Int), Reps (k115.M w base ok) 3 (xs.map laws_FnExactNewBase.tx) (laws_FnExactNewBase.flat xs)
  | [] => Reps.none _ _
  | x :: xs => Reps.c3 (k115_mkM w base ok (laws_FnExactNewBase.tx x) (Kd.R_nil _ _ _ _ _)) (laws_FnExactNewBase.reps w base ok xs)
theorem laws_FnExactNewBase.row (w : World) (g : Nat) (xs : List (Bool × Int)) (hl : xs.length = 4) (hb : w.heap[g]? = some (.cells (laws_FnExactNewBase.flat xs).toArray 115 (0, 0))) : Kd.R k115 115 w g (fun _ => True) (.slice (some ⟨g, 0, none⟩) 4 4) (xs.map laws_FnExactNewBase.tx) := by
  have hln := laws_FnExactNewBase.flat_len xs
  rw [hl] at hln
  have hm : (xs.map laws_FnExactNewBase.tx).length = 4 := by rw [List.length_map, hl]
  refine ⟨fun _ _ => trivial, laws_FnExactNewBase.flat xs, ?_, laws_FnExactNewBase.reps w g _ xs⟩
  rw [hm]
  exact ⟨hln, .inr ⟨g, 4, (laws_FnExactNewBase.flat xs).toArray, rfl, Nat.le_refl _, hb, Nat.le_refl _, by unfold maxLen; omega, hln, by rw [List.toList_toArray]; exact List.take_of_length_le (by rw [hln]; exact Nat.le_refl _)⟩⟩
theorem laws_FnExactNewBase.reads (w : World) (g : Nat) (xs : List (Bool × Int)) (hl : xs.length = 4) (hb : w.heap[g]? = some (.cells (laws_FnExactNewBase.flat xs).toArray 115 (0, 0))) : Kd.C k115 w (some ⟨g, 0, none⟩) (xs.map laws_FnExactNewBase.tx).length (xs.map laws_FnExactNewBase.tx) := by
  have h := (Kd.R_reads' (laws_FnExactNewBase.row w g xs hl hb)).2.2
  exact h
/-- All but one block lie as they lay. -/
def laws_FnExactNewBase.Only (g : Nat) (w w' : World) : Prop := w'.heap.size = w.heap.size ∧ ∀ k, k ≠ g → w'.heap[k]? = w.heap[k]?
theorem laws_FnExactNewBase.Only.refl (g : Nat) (w : World) : laws_FnExactNewBase.Only g w w := ⟨rfl, fun _ _ => rfl⟩
theorem laws_FnExactNewBase.Only.set {g : Nat} {w w' : World} (h : laws_FnExactNewBase.Only g w w') (j : Nat) (v : Value) : laws_FnExactNewBase.Only g w (w'.setCell ⟨g, j, none⟩ v) :=
  ⟨by simpa [World.setCell] using h.1, fun k hk => (Below.heap_setCell w' ⟨g, j, none⟩ v k hk).trans (h.2 k hk)⟩
theorem laws_FnExactNewBase.info : (Try.prog.info? 115).map (fun i => (i.zero, i.size, i.bytes)) = some (some (.agg #[.bool false, .int .i64 0, .slice none 0 0]), 3, 40) := by kernel_rfl
set_option maxHeartbeats 2000000 in
/-- The program's NewBase: one block of four transactions. -/
theorem laws_FnExactNewBase.new (w : World) : Calls Try.prog 9 #[] w fun e w' => ∃ g, e = .returned (.agg #[.int .i64 0, .slice none 0 0, .slice (some ⟨g, 0, none⟩) 4 4]) ∧ w.heap.size ≤ g ∧ w'.heap[g]? = some (.cells (laws_FnExactNewBase.flat (laws_FnExactNewBase.at 0)).toArray 115 (0, 0)) ∧ Below w.heap.size w w' := by
  have hu := Try.underlying25
  have hmk : ∀ w, (Instr.makeSlice 23 (.int .i64 4) (.int .i64 4)).run Try.prog w = .ok (.slice (some ⟨w.heap.size, 0, none⟩) 4 4) (w.alloc (.cells (laws_FnExactNewBase.flat (laws_FnExactNewBase.at 0)).toArray 115)) := fun _ => by kernel_rfl
  go_enter Try.func9, Try.ntmps9
  go_wp2
  refine bodyPost_ret (v := .agg #[.int .i64 0, .slice none 0 0, .slice (some ⟨w.heap.size + 1, 0, none⟩) 4 4]) (by simp [results, Try.results9, go_sem]) rfl ⟨w.heap.size + 1, rfl, by omega, ?_, ?_⟩
  · have h := blk_new (w.alloc (.cells #[.int .i64 0, .slice none 0 0, .slice (some ⟨w.heap.size + 1, 0, none⟩) 4 4] 25 (0, 0))) (.cells (laws_FnExactNewBase.flat (laws_FnExactNewBase.at 0)).toArray 115 (0, 0))
    rw [World.size_alloc] at h
    exact h
  · exact below_alloc (below_alloc (Below.refl _ _) _) _
set_option maxHeartbeats 2000000 in
theorem laws_FnExactNewBase.mw (A : Option Addr) (c : Nat) (n : Int) (w : World) : Calls Try.prog 82 #[.slice A 0 c, .int .i64 n] w fun e w' => e = .returned (.int .i64 n) ∧ w = w' := by
  go_enter Try.func82, Try.ntmps82
  go_wp2
  go_loopg [1, 5] 0 (fun _ s1 s5 wr => s1 = .int .i64 n ∧ s5 = .int .i64 0 ∧ wr = w)
  case atStart => exact ⟨rfl, rfl, rfl⟩
  case round =>
    obtain ⟨rfl, rfl, rfl⟩ := hrel
    go_wp2
    go_ret
    exact ⟨rfl, rfl⟩
set_option maxHeartbeats 2000000 in
theorem laws_FnExactNewBase.mv (A : Option Addr) (c : Nat) (n : Int) (w : World) : Calls Try.prog 45 #[.slice A 0 c, .int .i64 n] w fun e w' => e = .returned (.int .i64 n) ∧ w = w' := by
  go_enter Try.func45, Try.ntmps45
  go_wp2
  go_loopg [1, 5] 0 (fun _ s1 s5 wr => s1 = .int .i64 n ∧ s5 = .int .i64 0 ∧ wr = w)
  case atStart => exact ⟨rfl, rfl, rfl⟩
  case round =>
    obtain ⟨rfl, rfl, rfl⟩ := hrel
    go_wp2
    go_ret
    exact ⟨rfl, rfl⟩
set_option maxHeartbeats 8000000 in
set_option maxRecDepth 100000 in
theorem laws_FnExactNewBase.mt (g : Nat) (w : World) (hb : w.heap[g]? = some (.cells (laws_FnExactNewBase.flat (laws_FnExactNewBase.at 0)).toArray 115 (0, 0))) : Calls Try.prog 46 #[.slice (some ⟨g, 0, none⟩) 4 4, .int .i64 1] w fun e w' => e = .returned (.int .i64 9) ∧ w'.heap[g]? = some (.cells (laws_FnExactNewBase.flat (laws_FnExactNewBase.at 4)).toArray 115 (0, 0)) ∧ laws_FnExactNewBase.Only g w w' ∧ Below g w w' := by
  have hu := Try.underlying115
  have HB := Aside0.mk hb
  clear hb
  go_enter Try.func46, Try.ntmps46
  go_wp2
  go_loopg [1, 5] 4 (fun gg s1 s5 wr => ∃ kk : Nat, kk ≤ 4 ∧ 4 - kk ≤ gg ∧ s1 = .int .i64 (1 + 2 * kk) ∧ s5 = .int .i64 kk ∧ Aside0 (wr.heap[g]? = some (.cells (laws_FnExactNewBase.flat (laws_FnExactNewBase.at kk)).toArray 115 (0, 0))) ∧ Aside0 (laws_FnExactNewBase.Only g w wr) ∧ Aside0 (Below g w wr))
  case atStart => exact ⟨0, by omega, by omega, rfl, rfl, HB, ⟨laws_FnExactNewBase.Only.refl _ _⟩, ⟨Below.refl _ _⟩⟩
  case round =>
    clear HB
    obtain ⟨kk, hk, hg, rfl, rfl, BK, O, D⟩ := hrel
    have hc : kk = 4 ∨ kk = 0 ∨ kk = 1 ∨ kk = 2 ∨ kk = 3 := by omega
    rcases hc with rfl | rfl | rfl | rfl | rfl
    · go_wp2
      go_ret
      exact ⟨rfl, BK.out, O.out, D.out⟩
    · have hz0 : wr.cell? ⟨g, 0, none⟩ = some (.bool false) := (blk_cell BK.out 0).trans rfl
      have hz1 : wr.cell? ⟨g, 1, none⟩ = some (.int .i64 0) := (blk_cell BK.out 1).trans rfl
      have hz2 : wr.cell? ⟨g, 2, none⟩ = some (.slice none 0 0) := (blk_cell BK.out 2).trans rfl
      have hf0 := blk_frozen BK.out 0
      have hf1 := blk_frozen BK.out 1
      have hf2 := blk_frozen BK.out 2
      go_wp2_with (go_at_call 82; (with_reducible refine (laws_FnExactNewBase.mw _ _ _ _).mono ?_); rintro e w' ⟨rfl, rfl⟩)
      go_roundg (4 - 1)
      case measure => omega
      case rel => exact ⟨1, by omega, by omega, rfl, rfl, ⟨blk_put (blk_put BK.out 0 _ rfl) 1 _ rfl⟩, ⟨(O.out.set 0 _).set 1 _⟩, ⟨(D.out.setCell (p := ⟨g, 0, none⟩) (Nat.le_refl _) _).setCell (p := ⟨g, 1, none⟩) (Nat.le_refl _) _⟩⟩
    · have hz3 : wr.cell? ⟨g, 3, none⟩ = some (.bool false) := (blk_cell BK.out 3).trans rfl
      have hz4 : wr.cell? ⟨g, 4, none⟩ = some (.int .i64 0) := (blk_cell BK.out 4).trans rfl
      have hz5 : wr.cell? ⟨g, 5, none⟩ = some (.slice none 0 0) := (blk_cell BK.out 5).trans rfl
      have hf3 := blk_frozen BK.out 3
      have hf4 := blk_frozen BK.out 4
      have hf5 := blk_frozen BK.out 5
      go_wp2_with (go_at_call 82; (with_reducible refine (laws_FnExactNewBase.mw _ _ _ _).mono ?_); rintro e w' ⟨rfl, rfl⟩)
      go_roundg (4 - 2)
      case measure => omega
      case rel => exact ⟨2, by omega, by omega, rfl, rfl, ⟨blk_put (blk_put BK.out 3 _ rfl) 4 _ rfl⟩, ⟨(O.out.set 3 _).set 4 _⟩, ⟨(D.out.setCell (p := ⟨g, 3, none⟩) (Nat.le_refl _) _).setCell (p := ⟨g, 4, none⟩) (Nat.le_refl _) _⟩⟩
    · have hz6 : wr.cell? ⟨g, 6, none⟩ = some (.bool false) := (blk_cell BK.out 6).trans rfl
      have hz7 : wr.cell? ⟨g, 7, none⟩ = some (.int .i64 0) := (blk_cell BK.out 7).trans rfl
      have hz8 : wr.cell? ⟨g, 8, none⟩ = some (.slice none 0 0) := (blk_cell BK.out 8).trans rfl
      have hf6 := blk_frozen BK.out 6
      have hf7 := blk_frozen BK.out 7
      have hf8 := blk_frozen BK.out 8
      go_wp2_with (go_at_call 82; (with_reducible refine (laws_FnExactNewBase.mw _ _ _ _).mono ?_); rintro e w' ⟨rfl, rfl⟩)
      go_roundg (4 - 3)
      case measure => omega
      case rel => exact ⟨3, by omega, by omega, rfl, rfl, ⟨blk_put (blk_put BK.out 6 _ rfl) 7 _ rfl⟩, ⟨(O.out.set 6 _).set 7 _⟩, ⟨(D.out.setCell (p := ⟨g, 6, none⟩) (Nat.le_refl _) _).setCell (p := ⟨g, 7, none⟩) (Nat.le_refl _) _⟩⟩
    · have hz9 : wr.cell? ⟨g, 9, none⟩ = some (.bool false) := (blk_cell BK.out 9).trans rfl
      have hz10 : wr.cell? ⟨g, 10, none⟩ = some (.int .i64 0) := (blk_cell BK.out 10).trans rfl
      have hz11 : wr.cell? ⟨g, 11, none⟩ = some (.slice none 0 0) := (blk_cell BK.out 11).trans rfl
      have hf9 := blk_frozen BK.out 9
      have hf10 := blk_frozen BK.out 10
      have hf11 := blk_frozen BK.out 11
      go_wp2_with (go_at_call 82; (with_reducible refine (laws_FnExactNewBase.mw _ _ _ _).mono ?_); rintro e w' ⟨rfl, rfl⟩)
      go_roundg (4 - 4)
      case measure => omega
      case rel => exact ⟨4, by omega, by omega, rfl, rfl, ⟨blk_put (blk_put BK.out 9 _ rfl) 10 _ rfl⟩, ⟨(O.out.set 9 _).set 10 _⟩, ⟨(D.out.setCell (p := ⟨g, 9, none⟩) (Nat.le_refl _) _).setCell (p := ⟨g, 10, none⟩) (Nat.le_refl _) _⟩⟩
set_option maxHeartbeats 4000000 in
theorem laws_FnExactNewBase.mb (g : Nat) (w : World) (hb : w.heap[g]? = some (.cells (laws_FnExactNewBase.flat (laws_FnExactNewBase.at 0)).toArray 115 (0, 0))) : Calls Try.prog 11 #[.agg #[.int .i64 0, .slice none 0 0, .slice (some ⟨g, 0, none⟩) 4 4], .int .i64 1] w fun e w' => e = .returned (.int .i64 9) ∧ w'.heap[g]? = some (.cells (laws_FnExactNewBase.flat (laws_FnExactNewBase.at 4)).toArray 115 (0, 0)) ∧ (∀ k, k < w.heap.size → k ≠ g → w'.heap[k]? = w.heap[k]?) ∧ Below g w w' := by
  have hu := Try.underlying25
  obtain ⟨W1, hW1⟩ : ∃ W1, W1 = w.alloc (.cells #[.int .i64 0, .slice none 0 0, .slice (some ⟨g, 0, none⟩) 4 4] 25 (0, 0)) := ⟨_, rfl⟩
  have hlt := blk_lt hb
  have B1 : Aside0 (W1.heap[g]? = some (.cells (laws_FnExactNewBase.flat (laws_FnExactNewBase.at 0)).toArray 115 (0, 0))) := ⟨by rw [hW1]; exact blk_alloc hb _⟩
  have K1 : Aside0 (∀ k, k < w.heap.size → W1.heap[k]? = w.heap[k]?) := ⟨fun k hk => by rw [hW1]; exact Below.heap_alloc w _ k hk⟩
  have D1 : Aside0 (Below g w W1) := ⟨by rw [hW1]; exact (Below.refl g w).alloc (by omega) _⟩
  have BK := Aside0.mk (blk_new w (.cells #[.int .i64 0, .slice none 0 0, .slice (some ⟨g, 0, none⟩) 4 4] 25 (0, 0)))
  rw [← hW1] at BK
  obtain ⟨gb, hgb⟩ : ∃ gb, gb = w.heap.size := ⟨_, rfl⟩
  rw [← hgb] at BK
  have hz1 : W1.cell? ⟨gb, 1, none⟩ = some (.slice none 0 0) := (blk_cell BK.out 1).trans rfl
  have hz2 : W1.cell? ⟨gb, 2, none⟩ = some (.slice (some ⟨g, 0, none⟩) 4 4) := (blk_cell BK.out 2).trans rfl
  clear hb hlt
  go_enter Try.func11, Try.ntmps11
  go_upto_region 1 with (fail)
  rw [← hW1, ← hgb]
  clear hW1 hgb
  go_wp2_with (first
    | (go_at_call 45; (with_reducible refine (laws_FnExactNewBase.mv _ _ _ _).mono ?_); rintro e w' ⟨rfl, rfl⟩)
    | (go_at_call 46; (with_reducible refine (laws_FnExactNewBase.mt g _ B1.out).mono ?_); rintro e w' ⟨rfl, hb, ho, hd⟩; have HB := Aside0.mk hb; have HO := Aside0.mk ho; have HD := Aside0.mk hd; clear hb ho hd))
  go_ret
  exact ⟨rfl, HB.out, fun k hk hne => (HO.out.2 k hne).trans (K1.out k hk), D1.out.trans HD.out⟩
set_option maxHeartbeats 8000000 in
set_option maxRecDepth 100000 in
theorem laws_FnExactNewBase.calls (r : Bool) (w : World) (h : laws_FnExactNewBase.f = some r) :
    Calls Try.prog 3 #[] w fun e w' => e = .returned (.bool r) ∧ Below w.heap.size w w' := by
  have hu := Try.underlying25
  obtain rfl := Option.some.inj h
  clear h
  obtain ⟨⟨r1, r2, r3⟩, hq⟩ : ∃ q, q = laws_FnExactNewBase.S0 := ⟨_, rfl⟩
  have hspec := laws_FnExactNewBase.S0_is
  have hsame := laws_FnExactNewBase.same
  rw [← hq] at hspec hsame
  dsimp only at hspec hsame
  clear hq
  have HSP := Aside0.mk hspec
  have HSM := Aside0.mk hsame
  clear hspec hsame
  have HEQ : Aside0 (∀ (W : World) (g : Nat) (A1 : Option Addr) (c1 : Nat) (A2 : Option Addr) (c2 : Nat) (o1 o2 : Nat → Prop) (b : Nat), W.heap[g]? = some (.cells (laws_FnExactNewBase.flat (laws_FnExactNewBase.at 0)).toArray 115 (0, 0)) → Kd.R k111 111 W b o1 (.slice A1 r2.length c1) r2 → Kd.R k115 115 W b o2 (.slice A2 r3.length c2) r3 →
      Calls Try.prog 10 #[.agg #[.int .i64 0, .slice none 0 0, .slice (some ⟨g, 0, none⟩) 4 4], .agg #[.int .i64 r1, .slice A1 r2.length c1, .slice A2 r3.length c2]] W fun e w' => e = .returned (.bool true) ∧ Below W.heap.size W w') := ⟨fun W g A1 c1 A2 c2 o1 o2 b hb h1 h2 =>
    laws_eqBase.calls 20 0 none 0 [] (some ⟨g, 0, none⟩) 4 ((laws_FnExactNewBase.at 0).map laws_FnExactNewBase.tx) r1 A1 c1 r2 A2 c2 r3 true W (Kd.C_nil _ _) (Nat.le_refl _) (laws_FnExactNewBase.reads W g (laws_FnExactNewBase.at 0) rfl hb) (Nat.le_refl _) (Kd.R_reads' h1).2.2 (Kd.R_reads' h1).2.1 (Kd.R_reads' h2).2.2 (Kd.R_reads' h2).2.1 HSM.out⟩
  have HHL : Aside0 (∀ (W : World) (g : Nat), W.heap[g]? = some (.cells (laws_FnExactNewBase.flat (laws_FnExactNewBase.at 4)).toArray 115 (0, 0)) → Calls Try.prog 12 #[.agg #[.int .i64 0, .slice none 0 0, .slice (some ⟨g, 0, none⟩) 4 4], .int .i64 1] W fun e w' => e = .returned (.int .i64 9) ∧ Below W.heap.size W w') := ⟨fun W g hb =>
    laws_heldBase.calls 20 0 none 0 [] (some ⟨g, 0, none⟩) 4 ((laws_FnExactNewBase.at 4).map laws_FnExactNewBase.tx) 1 9 W (Kd.C_nil _ _) (Nat.le_refl _) (laws_FnExactNewBase.reads W g (laws_FnExactNewBase.at 4) rfl hb) (Nat.le_refl _) laws_FnExactNewBase.held⟩
  go_enter Try.func3, Try.ntmps3
  go_upto_region 2 with (go_at_call 8; (with_reducible refine (spec_NewBase.calls r1 r2 r3 _ HSP.out).mono ?_); rintro e W1 ⟨v1, v2, rfl, h1, h2, hb⟩; obtain ⟨A1, c1, rfl⟩ := Kd.R_slice h1; obtain ⟨A2, c2, rfl⟩ := Kd.S_slice h2; have HV := Aside0.mk (Kd.R_bound h1); have HT := Aside0.mk (Kd.R_bound (Kd.S_R h2)); have D := Aside0.mk hb; clear h1 h2 hb)
  have HV1 := Aside0.mk (Kd.R_alloc (Kd.R_mono HV.out (fun k hk => (hk.2.2.1 : k < W1.heap.size))) (.cells #[.int .i64 r1, .slice A1 r2.length c1, .slice A2 r3.length c2] 25 (0, 0)))
  have HT1 := Aside0.mk (Kd.R_alloc (Kd.R_mono HT.out (fun k hk => (hk.2.2.1 : k < W1.heap.size))) (.cells #[.int .i64 r1, .slice A1 r2.length c1, .slice A2 r3.length c2] 25 (0, 0)))
  have X1 := Aside0.mk (blk_new W1 (.cells #[.int .i64 r1, .slice A1 r2.length c1, .slice A2 r3.length c2] 25 (0, 0)))
  have D1 := Aside0.mk (below_alloc D.out (.cells #[.int .i64 r1, .slice A1 r2.length c1, .slice A2 r3.length c2] 25 (0, 0)))
  have SZ : Aside0 ((W1.alloc (.cells #[.int .i64 r1, .slice A1 r2.length c1, .slice A2 r3.length c2] 25 (0, 0))).heap.size = W1.heap.size + 1) := ⟨by simp⟩
  have WX : Aside0 (w.heap.size ≤ W1.heap.size) := ⟨D.out.size⟩
  clear HV HT D
  generalize W1.alloc (.cells #[.int .i64 r1, .slice A1 r2.length c1, .slice A2 r3.length c2] 25 (0, 0)) = W2 at HV1 HT1 X1 D1 SZ ⊢
  generalize W1.heap.size = x1 at HV1 HT1 X1 SZ WX ⊢
  go_upto_region 3 with (go_at_call 9; (with_reducible refine (laws_FnExactNewBase.new _).mono ?_); rintro e W3 ⟨g, rfl, hg, hb, hd⟩; have HV3 := Aside0.mk (Kd.R_below HV1.out hd); have HT3 := Aside0.mk (Kd.R_below HT1.out hd); have X3 := Aside0.mk (blk_below X1.out hd); have D3 := Aside0.mk (below_then D1.out D1.out.size hd); have G3 := Aside0.mk hb; have HG : Aside0 (x1 < g) := ⟨by have := SZ.out; omega⟩; clear hg hb hd)
  clear HV1 HT1 X1 D1 SZ
  have HV4 := Aside0.mk (Kd.R_alloc HV3.out (.cells #[.int .i64 0, .slice none 0 0, .slice (some ⟨g, 0, none⟩) 4 4] 25 (0, 0)))
  have HT4 := Aside0.mk (Kd.R_alloc HT3.out (.cells #[.int .i64 0, .slice none 0 0, .slice (some ⟨g, 0, none⟩) 4 4] 25 (0, 0)))
  have X4 := Aside0.mk (blk_alloc X3.out (.cells #[.int .i64 0, .slice none 0 0, .slice (some ⟨g, 0, none⟩) 4 4] 25 (0, 0)))
  have D4 := Aside0.mk (below_alloc D3.out (.cells #[.int .i64 0, .slice none 0 0, .slice (some ⟨g, 0, none⟩) 4 4] 25 (0, 0)))
  have G4 := Aside0.mk (blk_alloc G3.out (.cells #[.int .i64 0, .slice none 0 0, .slice (some ⟨g, 0, none⟩) 4 4] 25 (0, 0)))
  have Y4 := Aside0.mk (blk_new W3 (.cells #[.int .i64 0, .slice none 0 0, .slice (some ⟨g, 0, none⟩) 4 4] 25 (0, 0)))
  have HY : Aside0 (g < W3.heap.size) := ⟨blk_lt G3.out⟩
  clear HV3 HT3 X3 D3 G3
  generalize W3.alloc (.cells #[.int .i64 0, .slice none 0 0, .slice (some ⟨g, 0, none⟩) 4 4] 25 (0, 0)) = W4 at HV4 HT4 X4 D4 G4 Y4 ⊢
  generalize W3.heap.size = x2 at Y4 HY ⊢
  have xz0 : W4.cell? ⟨x1, 0, none⟩ = some (.int .i64 r1) := (blk_cell X4.out 0).trans rfl
  have xz1 : W4.cell? ⟨x1, 1, none⟩ = some (.slice A1 r2.length c1) := (blk_cell X4.out 1).trans rfl
  have xz2 : W4.cell? ⟨x1, 2, none⟩ = some (.slice A2 r3.length c2) := (blk_cell X4.out 2).trans rfl
  have yz0 : W4.cell? ⟨x2, 0, none⟩ = some (.int .i64 0) := (blk_cell Y4.out 0).trans rfl
  have yz1 : W4.cell? ⟨x2, 1, none⟩ = some (.slice none 0 0) := (blk_cell Y4.out 1).trans rfl
  have yz2 : W4.cell? ⟨x2, 2, none⟩ = some (.slice (some ⟨g, 0, none⟩) 4 4) := (blk_cell Y4.out 2).trans rfl
  go_upto_region 6 with (go_at_call 10; (with_reducible refine (HEQ.out _ g A1 c1 A2 c2 _ _ _ G4.out HV4.out HT4.out).mono ?_); rintro e W5 ⟨rfl, hd⟩; have HV5 := Aside0.mk (Kd.R_below HV4.out hd); have HT5 := Aside0.mk (Kd.R_below HT4.out hd); have X5 := Aside0.mk (blk_below X4.out hd); have Y5 := Aside0.mk (blk_below Y4.out hd); have G5 := Aside0.mk (blk_below G4.out hd); have D5 := Aside0.mk (below_then D4.out D4.out.size hd); clear hd)
  clear HV4 HT4 X4 D4 G4 Y4 xz0 xz1 xz2 yz0 yz1 yz2
  have yz0 : W5.cell? ⟨x2, 0, none⟩ = some (.int .i64 0) := (blk_cell Y5.out 0).trans rfl
  have yz1 : W5.cell? ⟨x2, 1, none⟩ = some (.slice none 0 0) := (blk_cell Y5.out 1).trans rfl
  have yz2 : W5.cell? ⟨x2, 2, none⟩ = some (.slice (some ⟨g, 0, none⟩) 4 4) := (blk_cell Y5.out 2).trans rfl
  go_upto_region 8 with (go_at_call 11; (with_reducible refine (laws_FnExactNewBase.mb g _ G5.out).mono ?_); rintro e W6 ⟨rfl, hb, hk, hd⟩; have G6 := Aside0.mk hb; have HV6 := Aside0.mk (Kd.R_step HV5.out (fun k h1 h2 => hk k h2 (by have := HG.out; omega))); have HT6 := Aside0.mk (Kd.R_step HT5.out (fun k h1 h2 => hk k h2 (by have := HG.out; omega))); have X6 := Aside0.mk ((hk x1 (blk_lt X5.out) (by have := HG.out; omega)).trans X5.out); have Y6 := Aside0.mk ((hk x2 (blk_lt Y5.out) (by have := HY.out; omega)).trans Y5.out); have D6 := Aside0.mk (D5.out.trans (hd.mono (by have := HG.out; have := WX.out; omega))); clear hb hk hd)
  clear HV5 HT5 X5 D5 G5 Y5 yz0 yz1 yz2
  have yz0 : W6.cell? ⟨x2, 0, none⟩ = some (.int .i64 0) := (blk_cell Y6.out 0).trans rfl
  have yz1 : W6.cell? ⟨x2, 1, none⟩ = some (.slice none 0 0) := (blk_cell Y6.out 1).trans rfl
  have yz2 : W6.cell? ⟨x2, 2, none⟩ = some (.slice (some ⟨g, 0, none⟩) 4 4) := (blk_cell Y6.out 2).trans rfl
  go_upto_region 13 with (go_at_call 12; (with_reducible refine (HHL.out _ g G6.out).mono ?_); rintro e W7 ⟨rfl, hd⟩; have HV7 := Aside0.mk (Kd.R_below HV6.out hd); have HT7 := Aside0.mk (Kd.R_below HT6.out hd); have X7 := Aside0.mk (blk_below X6.out hd); have Y7 := Aside0.mk (blk_below Y6.out hd); have G7 := Aside0.mk (blk_below G6.out hd); have D7 := Aside0.mk (below_then D6.out D6.out.size hd); clear hd)
  clear HV6 HT6 X6 D6 G6 Y6 yz0 yz1 yz2
  go_upto_region 14 with (go_at_call 9; (with_reducible refine (laws_FnExactNewBase.new _).mono ?_); rintro e W8 ⟨h, rfl, hh, hb, hd⟩; have H8 := Aside0.mk hb; have HV8 := Aside0.mk (Kd.R_below HV7.out hd); have HT8 := Aside0.mk (Kd.R_below HT7.out hd); have X8 := Aside0.mk (blk_below X7.out hd); have Y8 := Aside0.mk (blk_below Y7.out hd); have G8 := Aside0.mk (blk_below G7.out hd); have D8 := Aside0.mk (below_then D7.out D7.out.size hd); clear hd; clear hh hb)
  clear HV7 HT7 X7 D7 G7 Y7
  have HV9 := Aside0.mk (Kd.R_alloc HV8.out (.cells #[.int .i64 0, .slice none 0 0, .slice (some ⟨h, 0, none⟩) 4 4] 25 (0, 0)))
  have HT9 := Aside0.mk (Kd.R_alloc HT8.out (.cells #[.int .i64 0, .slice none 0 0, .slice (some ⟨h, 0, none⟩) 4 4] 25 (0, 0)))
  have X9 := Aside0.mk (blk_alloc X8.out (.cells #[.int .i64 0, .slice none 0 0, .slice (some ⟨h, 0, none⟩) 4 4] 25 (0, 0)))
  have D9 := Aside0.mk (below_alloc D8.out (.cells #[.int .i64 0, .slice none 0 0, .slice (some ⟨h, 0, none⟩) 4 4] 25 (0, 0)))
  have G9 := Aside0.mk (blk_alloc G8.out (.cells #[.int .i64 0, .slice none 0 0, .slice (some ⟨h, 0, none⟩) 4 4] 25 (0, 0)))
  have Y9 := Aside0.mk (blk_alloc Y8.out (.cells #[.int .i64 0, .slice none 0 0, .slice (some ⟨h, 0, none⟩) 4 4] 25 (0, 0)))
  have H9 := Aside0.mk (blk_alloc H8.out (.cells #[.int .i64 0, .slice none 0 0, .slice (some ⟨h, 0, none⟩) 4 4] 25 (0, 0)))
  have Z9 := Aside0.mk (blk_new W8 (.cells #[.int .i64 0, .slice none 0 0, .slice (some ⟨h, 0, none⟩) 4 4] 25 (0, 0)))
  clear HV8 HT8 X8 D8 G8 Y8 H8
  generalize W8.alloc (.cells #[.int .i64 0, .slice none 0 0, .slice (some ⟨h, 0, none⟩) 4 4] 25 (0, 0)) = W9 at HV9 HT9 X9 D9 G9 Y9 H9 Z9 ⊢
  generalize W8.heap.size = x5 at Z9 ⊢
  have xz0 : W9.cell? ⟨x1, 0, none⟩ = some (.int .i64 r1) := (blk_cell X9.out 0).trans rfl
  have xz1 : W9.cell? ⟨x1, 1, none⟩ = some (.slice A1 r2.length c1) := (blk_cell X9.out 1).trans rfl
  have xz2 : W9.cell? ⟨x1, 2, none⟩ = some (.slice A2 r3.length c2) := (blk_cell X9.out 2).trans rfl
  have zz0 : W9.cell? ⟨x5, 0, none⟩ = some (.int .i64 0) := (blk_cell Z9.out 0).trans rfl
  have zz1 : W9.cell? ⟨x5, 1, none⟩ = some (.slice none 0 0) := (blk_cell Z9.out 1).trans rfl
  have zz2 : W9.cell? ⟨x5, 2, none⟩ = some (.slice (some ⟨h, 0, none⟩) 4 4) := (blk_cell Z9.out 2).trans rfl
  go_upto_region 17 with (go_at_call 10; (with_reducible refine (HEQ.out _ h A1 c1 A2 c2 _ _ _ H9.out HV9.out HT9.out).mono ?_); rintro e W10 ⟨rfl, hd⟩; have HV10 := Aside0.mk (Kd.R_below HV9.out hd); have HT10 := Aside0.mk (Kd.R_below HT9.out hd); have X10 := Aside0.mk (blk_below X9.out hd); have Y10 := Aside0.mk (blk_below Y9.out hd); have G10 := Aside0.mk (blk_below G9.out hd); have D10 := Aside0.mk (below_then D9.out D9.out.size hd); clear hd)
  clear HV9 HT9 X9 D9 G9 Y9 H9 Z9 xz0 xz1 xz2 zz0 zz1 zz2
  have yz0 : W10.cell? ⟨x2, 0, none⟩ = some (.int .i64 0) := (blk_cell Y10.out 0).trans rfl
  have yz1 : W10.cell? ⟨x2, 1, none⟩ = some (.slice none 0 0) := (blk_cell Y10.out 1).trans rfl
  have yz2 : W10.cell? ⟨x2, 2, none⟩ = some (.slice (some ⟨g, 0, none⟩) 4 4) := (blk_cell Y10.out 2).trans rfl
  go_wp2_with (go_at_call 12; (with_reducible refine (HHL.out _ g G10.out).mono ?_); rintro e W11 ⟨rfl, hd⟩; have D11 := Aside0.mk (below_then D10.out D10.out.size hd); clear hd)
  go_ret
  exact ⟨rfl, D11.out⟩

end Go.Proofs.Ytnoalobmkecjpaa.XN
