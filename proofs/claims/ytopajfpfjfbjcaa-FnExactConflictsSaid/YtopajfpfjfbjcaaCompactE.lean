import Derived.Test.YtopajfpfjfbjcaaProg
import Derived.Below
import Derived.Deep.Draws
import Derived.Deep.AppendLies
import Derived.Maps.AppendAt
import Derived.OwnWalk
import Derived.Laws.BytesArg
import Derived.Laws.MakeOwn
import Derived.Laws.OwnMore
import Derived.Deep.OwnRows
import Derived.Tactics
import Derived.Lib.ConvBytes
import Derived.Laws.Slices
import Derived.WalkKit
import Derived.KernelRfl
import Derived.RowKit3
import Derived.Deep.LoopGhost
import Derived.Deep.QuietTactic
import Derived.BigQuiet
import Derived.WideLaws
import Derived.Deep.DeepCutAuto
import Derived.Deep.CutBlock
import Derived.Deep.RegionHeld3
import Derived.Laws.Rows
import Derived.Lib.AppendStr
import Derived.ArgAppend
import Derived.Laws.IdiomCopy
import Derived.OrdersHeld
import Derived.Laws.BitsLemmas
import Derived.RowKit
import Derived.Test.YtopajfpfjfbjcaaWWords
import Derived.Test.YtopajfpfjfbjcaaWLast
import Derived.Test.YtopajfpfjfbjcaaWTab
import Derived.Test.YtopajfpfjfbjcaaWQPut
import Derived.Test.YtopajfpfjfbjcaaWApart
import Derived.Test.YtopajfpfjfbjcaaWArr
import Derived.Test.YtopajfpfjfbjcaaWZeros
import Derived.Test.YtopajfpfjfbjcaaWFoot
import Derived.Test.YtopajfpfjfbjcaaWKept
import Derived.Test.YtopajfpfjfbjcaaWShare
import Derived.Test.YtopajfpfjfbjcaaWN
import Derived.Test.YtopajfpfjfbjcaaWFootNe
import Derived.Test.YtopajfpfjfbjcaaWAt
import Derived.Test.YtopajfpfjfbjcaaWEqStruct
import Derived.Test.YtopajfpfjfbjcaaWRepsOne
import Derived.Test.YtopajfpfjfbjcaaWGuard
import Derived.Test.YtopajfpfjfbjcaaWNEv
import Derived.Test.YtopajfpfjfbjcaaWMore
import Derived.Test.YtopajfpfjfbjcaaXtra
import Derived.Lib.SlicesCompact
import Derived.Shelf.RegionOpenPlain
import Derived.Shelf.GgSortFunc.RowK
import Derived.Lib.Walk
import Derived.Sort.WalkB12
import Derived.Lib.SliceRun
import Derived.Test.YtopajfpfjfbjcaaOwnK
namespace Go.Proofs.Ytopajfpfjfbjcaa.CompactE
open Go Go.RowKit Go.Proofs Go.Proofs.YtopajfpfjfbjcaaW.PrintWords Go.Lib Go.Sort
set_option linter.unusedVariables false
abbrev E := Int × Int
def enc (x : E) : List Value := [.int .i64 x.1, .int .i64 x.2]
theorem cells0 {w : World} {blk : Nat} {d : Array E} (h : HoldsK enc 2 w blk 0 d) {i : Nat} (hi : i < d.size) :
    w.cell? ⟨blk, i * 2, none⟩ = some (.int .i64 d[i]!.1) ∧ w.cell? ⟨blk, i * 2 + 1, none⟩ = some (.int .i64 d[i]!.2) ∧ w.frozen? ⟨blk, i * 2, none⟩ = false ∧ w.frozen? ⟨blk, i * 2 + 1, none⟩ = false := by
  have a := HoldsK.cell h hi (c := 0) (by omega)
  have b := HoldsK.cell h hi (c := 1) (by omega)
  rw [Nat.zero_add] at a b
  exact ⟨a.1, b.1, a.2, b.2⟩
set_option maxHeartbeats 1000000 in
theorem short (A : Option Addr) (n c : Nat) (W : World) (hn : n < 2) :
    Calls Try.prog 34 #[.slice A n c] W fun e w' => e = .returned (.slice A n c) ∧ w' = W := by
  have c1 : decide ((n : Int) < 2) = true := decide_eq_true (by omega)
  go_enter Try.func34, Try.ntmps34
  go_wp2
  go_ret
  exact ⟨rfl, rfl⟩
/-- One element laid into the flat row. -/
theorem set_flat (d : Array E) (i : Nat) (hi : i < d.size) (x : E) : setMany (flatK enc 2 d) (i * 2) (enc x) = flatK enc 2 (d.setIfInBounds i x) := by
  refine ext_get! (by simp) fun t ht => ?_
  have ht' : t < d.size * 2 := by simpa using ht
  rw [get_setMany _ _ _ t (by simpa using ht'), get_flatK _ _ _ t ht', get_flatK _ _ _ t (by simpa using ht')]
  by_cases a : t / 2 = i
  · rw [if_pos (show i * 2 ≤ t ∧ t < i * 2 + (enc x).length from (blk_iff 2 i t (by omega)).2 a), a, getElem!_set_same d i x hi]
    congr 1
    omega
  · rw [if_neg (show ¬ (i * 2 ≤ t ∧ t < i * 2 + (enc x).length) from fun h => a ((blk_iff 2 i t (by omega)).1 h)), getElem!_set_other d i _ x a]
theorem store_world {w wr : World} {n blk : Nat} {dk : Array E} {i : Nat} (hi : i < dk.size) (hwr : wr = putRowK enc 2 (Sort.ahead w n) blk 0 dk) (x : E) :
    ((wr.setCell ⟨blk, i * 2, none⟩ (.int .i64 x.1)).setCell ⟨blk, i * 2 + 1, none⟩ (.int .i64 x.2)).drew = putRowK enc 2 (Sort.ahead w (n + 1)) blk 0 (dk.setIfInBounds i x) := by
  have h := setCells_putRow (Sort.ahead w n) blk 0 (enc x) (i * 2) (flatK enc 2 dk) (by rw [size_flatK]; show i * 2 + 2 ≤ dk.size * 2; omega)
  rw [set_flat dk i hi x, Nat.zero_add] at h
  rw [hwr, ← putRowK_drewN]
  exact congrArg (fun W => World.drewN W 1) h
theorem setMany_low : ∀ (vs : List Value) (s : Nat) (F : Array Value) (t : Nat), t < s → (setMany F s vs)[t]? = F[t]?
  | [], _, _, _, _ => rfl
  | v :: r, s, F, t, h => by rw [setMany, setMany_low r (s + 1) _ t (by omega), Array.getElem?_setIfInBounds, if_neg (by omega)]
theorem setMany_take (vs : List Value) (s : Nat) (F : Array Value) : (setMany F s vs).toList.take s = F.toList.take s := by
  apply List.ext_getElem?
  intro t
  by_cases h : t < s
  · rw [List.getElem?_take_of_lt h, List.getElem?_take_of_lt h, Array.getElem?_toList, Array.getElem?_toList, setMany_low vs s F t h]
  · rw [List.getElem?_take_eq_none (by omega), List.getElem?_take_eq_none (by omega)]
theorem flat_take (l : List E) (k : Nat) (h : k ≤ l.length) : (l.flatMap enc).take (k * 2) = (l.take k).flatMap enc := by
  have e : l.flatMap enc = (l.take k).flatMap enc ++ (l.drop k).flatMap enc := by rw [← List.flatMap_append, List.take_append_drop]
  have hl : ((l.take k).flatMap enc).length = k * 2 := by rw [OwnK.flatMap_len (k := 2) (fun _ => rfl), List.length_take, Nat.min_eq_left h]
  rw [e, List.take_append_of_le_length (by rw [hl]; exact Nat.le_refl _), List.take_of_length_le (by rw [hl]; exact Nat.le_refl _)]
theorem kept {d dk : Array E} {kk : Nat} (hI : CompInv d d.size kk dk) : dk.toList.take kk = compactUpTo d d.size := by
  have hlt := hI.lt
  have hs := hI.size
  apply List.ext_getElem?
  intro j
  by_cases h : j < kk
  · rw [List.getElem?_take_of_lt h, hI.low j h, Array.getElem?_toList, Array.getElem?_eq_getElem (by omega), getElem!_pos dk j (by omega)]
  · rw [List.getElem?_take_eq_none (by omega), List.getElem?_eq_none (by rw [hI.len]; omega)]

theorem eqA55 (d : Nat) (w : World) (x0 y0 : Int) (x1 y1 : Int) :
    (Op.equalIn (d + 2) 55 (.agg #[.int .i64 x0, .int .i64 x1]) (.agg #[.int .i64 y0, .int .i64 y1])).run Try.prog w = .ok (x0 == y0 && (x1 == y1)) w := by
  refine eqA_of Try.underlying55 (by kernel_rfl) ?_
  refine eqf_cons (by rfl) (by go_simp; rfl) (by go_simp; rfl) (by go_simp) ?_
  exact eqf_last (by rfl) (by go_simp; rfl) (by go_simp; rfl) (by go_simp)
theorem neA55 (x y : E) (h : ¬ x = y) (w : World) : (Op.equalIn 10000 55 (.agg #[.int .i64 x.1, .int .i64 x.2]) (.agg #[.int .i64 y.1, .int .i64 y.2])).run Try.prog w = .ok false w := by
  have e := eqA55 9998 w x.1 y.1 x.2 y.2
  have : (x.1 == y.1 && (x.2 == y.2)) = false := by
    obtain ⟨a, b⟩ := x
    obtain ⟨c, f⟩ := y
    simp only [Prod.mk.injEq] at h
    by_cases h1 : a = c
    · by_cases h2 : b = f
      · exact absurd ⟨h1, h2⟩ h
      · simp [h2]
    · simp [h1]
  rw [this] at e
  exact e
theorem zero55 : ∀ w, (zeroValue 55).run Try.prog w = .ok (.agg #[.int .i64 0, .int .i64 0]) w := fun w => by kernel_rfl
theorem clear2 (w : World) (b o n c : Nat) (hn : 0 < n) (hc : ∀ j, j < n * 2 → (w.cell? ⟨b, o + j, none⟩).isSome = true) (hf : ∀ j, j < n * 2 → w.frozen? ⟨b, o + j, none⟩ = false) (ty : TypeId) :
    (Builtin.clear_ #[24] ty #[.slice (some ⟨b, o, none⟩) n c]).run Try.prog w = .ok (.tuple #[]) (w.setCells b o (List.replicate (n * 2) (.int .i64 0))) := by
  have hzc : (Builtin.zeroCells (Value.agg #[.int .i64 0, .int .i64 0]).cells n).toList = List.replicate (n * 2) (.int .i64 0) := by
    simp only [Value.cells, Builtin.zeroCells]
    apply List.ext_getElem
    · simp
    · intro i h1 h2
      rcases Nat.mod_two_eq_zero_or_one i with h | h <;> simp [h]
  have hst := run_storeCells_cells (P := Try.prog) b o (List.replicate (n * 2) (.int .i64 0)) 0 w (by simpa using hc) (by simpa using hf) (by intro v hv'; rw [List.eq_of_mem_replicate hv']; rfl)
  simp only [Nat.add_zero] at hst
  obtain ⟨m, rfl⟩ : ∃ m, n = m + 1 := ⟨n - 1, by omega⟩
  simp [Builtin.clear_, run_underlying Try.underlying24, hzc, hst]
set_option maxHeartbeats 4000000 in
/-- slices.Compact at Edge: the slice cut to what is kept, its cells holding that ahead of zeros. -/
theorem long (blk cap : Nat) (d : Array E) (w : World) (hn : 2 ≤ d.size) (hH : HoldsK enc 2 w blk 0 d) (hsz : d.size ≤ 4611686018427387903) (hcap : d.size ≤ cap) :
    Calls Try.prog 34 #[.slice (some ⟨blk, 0, none⟩) d.size cap] w fun e w' => e = .returned (.slice (some ⟨blk, 0, none⟩) (compactUpTo d d.size).length cap) ∧
      ∃ (q : Nat) (F : Array Value), w' = putRow id (Sort.ahead w q) blk 0 F ∧ F.size = d.size * 2 ∧ (compactUpTo d d.size).length ≤ d.size ∧ F.toList.take ((compactUpTo d d.size).length * 2) = (compactUpTo d d.size).flatMap enc := by
  have h2 : ¬ d.size < 2 := by omega
  have mixed : Try.prog.follows .mixedOrders = true := by kernel_rfl
  have same : ∀ q, (∀ j, j < d.size → keeps d j = true) → (compactUpTo d d.size).length = d.size ∧ ∃ (q' : Nat) (F : Array Value), w.drewN q = putRow id (Sort.ahead w q') blk 0 F ∧ F.size = d.size * 2 ∧ (compactUpTo d d.size).length ≤ d.size ∧ F.toList.take ((compactUpTo d d.size).length * 2) = (compactUpTo d d.size).flatMap enc := by
    intro q hall
    have e : compactUpTo d d.size = d.toList := by rw [compactUpTo_all d _ hall, range_map_get]
    rw [e]
    refine ⟨by simp, q, flatK enc 2 d, ?_, by simp, by simp, ?_⟩
    · exact (putRowK_self enc 2 (Sort.ahead w q) blk 0 d (holdsK_ahead enc 2 w q blk 0 d hH)).symm
    · have := OwnK.flatK_list (enc := enc) (k := 2) (fun _ => rfl) d.toList
      rw [Array.toArray_toList] at this
      rw [← this, List.take_of_length_le (by simp)]
  have HS := Aside0.mk same
  clear same
  go_enter Try.func34, Try.ntmps34
  go_wp2
  go_loopg [3] d.size (fun g s3 wr => ∃ k q : Nat, 1 ≤ k ∧ k ≤ d.size ∧ d.size - k ≤ g ∧ s3 = .int .i64 k ∧ wr = w.drewN q ∧ ∀ j, j < k → keeps d j = true)
  case atStart => exact ⟨1, 0, Nat.le_refl _, by omega, by omega, rfl, rfl, keeps_lt_one d⟩
  case round =>
    obtain ⟨k, q, hk1, hk, hg, rfl, rfl, hall⟩ := hrel
    by_cases hlt : k < d.size
    · obtain ⟨c1, c1', f1, f1'⟩ := cells0 hH hlt
      obtain ⟨c0, c0', f0, f0'⟩ := cells0 hH (i := k - 1) (by omega)
      have A : Aside0 (∀ j, j < k → keeps d j = true) := ⟨hall⟩
      have HH : Aside0 (HoldsK enc 2 w blk 0 d) := ⟨hH⟩
      clear hall hH
      generalize hx : d[k]! = x at c1 c1'
      generalize hy : d[k - 1]! = y at c0 c0'
      have B : Aside0 (d[k]! = x ∧ d[k - 1]! = y) := ⟨⟨hx, hy⟩⟩
      clear hx hy
      by_cases hdup : x = y
      · subst hdup
        go_wp2_with fail
        go_region_o
        go_wp2
        clear c0 c1 f0 f1 c0' c1' f0' f1'
        go_loopg [3, 5] d.size (fun g s3 s5 wr => ∃ (kk k2 q2 : Nat) (dk : Array E), s3 = .int .i64 kk ∧ s5 = .int .i64 k2 ∧ 1 ≤ k2 ∧ k + k2 ≤ d.size ∧ d.size - (k + k2) ≤ g ∧ wr = putRowK enc 2 (Sort.ahead w q2) blk 0 dk ∧ CompInv d (k + k2) kk dk)
        case atStart => exact ⟨k, 1, q + 1, d, rfl, rfl, Nat.le_refl _, by omega, by omega, (putRowK_self enc 2 (Sort.ahead w (q + 1)) blk 0 d (holdsK_ahead enc 2 w (q + 1) blk 0 d HH.out)).symm, CompInv.start A.out (keeps_neg (by omega) (by rw [B.out.1, B.out.2]))⟩
        case round =>
          obtain ⟨kk, k2, q2, dk, rfl, rfl, h1, hle, hg2, hwr, hI⟩ := hrel
          have hkk := hI.lt
          have hds := hI.size
          have hHk : HoldsK enc 2 wr blk 0 dk := by rw [hwr]; exact holdsK_putRowK enc 2 _ blk 0 d dk (holdsK_ahead enc 2 w q2 blk 0 d HH.out) hds
          have W2 : Aside0 (wr = putRowK enc 2 (Sort.ahead w q2) blk 0 dk) := ⟨hwr⟩
          have I2 : Aside0 (CompInv d (k + k2) kk dk) := ⟨hI⟩
          clear hwr
          by_cases hlt2 : k + k2 < d.size
          · obtain ⟨cm, cm', _, _⟩ := cells0 hHk (i := k + k2) (by omega)
            obtain ⟨cp, cp', _, _⟩ := cells0 hHk (i := k + k2 - 1) (by omega)
            obtain ⟨ck, ck', fk, fk'⟩ := cells0 hHk (i := kk) (by omega)
            rw [hI.high (k + k2) (by omega), show (k + k2) * 2 = k * 2 + k2 * 2 by omega] at cm cm'
            rw [hI.high (k + k2 - 1) (by omega), show (k + k2 - 1) * 2 = k * 2 + (k2 - 1) * 2 by omega] at cp cp'
            clear hHk hI
            generalize hu : d[k + k2]! = u at cm cm'
            generalize hv : d[k + k2 - 1]! = v at cp cp'
            generalize dk[kk]! = old at ck ck'
            have C : Aside0 (d[k + k2]! = u ∧ d[k + k2 - 1]! = v) := ⟨⟨hu, hv⟩⟩
            clear hu hv
            by_cases huv : u = v
            · subst huv
              go_wp2_with fail
              go_region_o
              go_wp2
              go_roundg (d.size - (k + (k2 + 1)))
              case measure => omega
              case rel => exact ⟨kk, k2 + 1, q2 + 1, dk, rfl, by go_num, by omega, by omega, Nat.le_refl _, by rw [W2.out]; rfl, I2.out.skip (keeps_neg (by omega) (by rw [C.out.1, C.out.2]))⟩
            · have hne := neA55 u v huv
              go_wp2_with fail
              go_region_o
              go_wp2
              go_roundg (d.size - (k + (k2 + 1)))
              case measure => omega
              case rel => exact ⟨kk + 1, k2 + 1, q2 + 1, dk.setIfInBounds kk u, by go_num, by go_num, by omega, by omega, Nat.le_refl _, store_world (by omega) W2.out u, by have := I2.out.keep hlt2 (keeps_pos (by rw [C.out.1, C.out.2]; exact huv)); rwa [C.out.1] at this⟩
          · have hend : k + k2 = d.size := by omega
            have hcl := clear2 wr blk (kk * 2) (d.size - kk) (cap - kk) (by omega) (fun j hj => by
              have := (hHk (kk * 2 + j) (by rw [size_flatK, hds]; omega)).1
              rw [Nat.zero_add] at this
              rw [this]
              rfl) (fun j hj => by
              have := (hHk (kk * 2 + j) (by rw [size_flatK, hds]; omega)).2
              rwa [Nat.zero_add] at this)
            clear hHk hI
            go_wp2
            go_ret
            have hI := I2.out
            rw [hend] at hI
            have hfl := OwnK.flatK_list (enc := enc) (k := 2) (fun _ => rfl) dk.toList
            rw [Array.toArray_toList] at hfl
            refine ⟨by rw [hI.len]; rfl, q2, setMany (flatK enc 2 dk) (kk * 2) (List.replicate ((d.size - kk) * 2) (.int .i64 0)), ?_, ?_, by rw [hI.len]; omega, ?_⟩
            · have h := setCells_putRow (Sort.ahead w q2) blk 0 (List.replicate ((d.size - kk) * 2) (.int .i64 0)) (kk * 2) (flatK enc 2 dk) (by rw [size_flatK, List.length_replicate, hds]; omega)
              rw [Nat.zero_add] at h
              rw [W2.out]
              exact h
            · rw [size_setMany, size_flatK, hds]
            · rw [hI.len, setMany_take, hfl, flat_take _ _ (by rw [Array.length_toList]; omega), kept hI]
      · have hne := neA55 x y hdup
        go_wp2_with fail
        go_region_o
        go_wp2
        go_roundg (d.size - (k + 1))
        case measure => omega
        case rel =>
          refine ⟨k + 1, q + 1, by omega, by omega, Nat.le_refl _, by go_num, rfl, fun j hj => ?_⟩
          by_cases e : j = k
          · subst e
            exact keeps_pos (by rw [B.out.1, B.out.2]; exact hdup)
          · exact A.out j (by omega)
    · have : k = d.size := by omega
      subst this
      clear hH
      go_wp2
      go_ret
      obtain ⟨e1, e2⟩ := HS.out q hall
      exact ⟨by rw [e1]; rfl, e2⟩
end Go.Proofs.Ytopajfpfjfbjcaa.CompactE
