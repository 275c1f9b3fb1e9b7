/- The library's sort of held pages by their numbers, of a row that the call owns; all pages small and none twice. -/
import Derived.Test.YtcnkacbgcmnokaaRoomR
import Derived.Test.YtcnkacbgcmnokaaOwnS
import Derived.Test.YtcnkacbgcmnokaaLayG
namespace Go.Proofs.Ytcnkacbgcmnokaa.XR.Sorth
open Go Go.RowKit Go.Proofs Go.Proofs.YtcnkacbgcmnokaaW.PrintWords Go.Proofs.YtcnkacbgcmnokaaW.PrintLast Go.Proofs.YtcnkacbgcmnokaaW.PrintMore Go.Proofs.Ytcnkacbgcmnokaa.XR Go.Sort Go.Shelf Go.Lib
set_option linter.unusedVariables false
set_option linter.unusedSimpArgs false
/-- A page that no difference wraps. -/
abbrev Sm := { x : S74 // 0 ≤ x.f0 ∧ x.f0 < 4294967296 }
instance : Inhabited S74 := ⟨z74⟩
instance : Inhabited Sm := ⟨⟨z74, by decide⟩⟩
def dS : Kd Sm := Kd.iso k74 (fun x => x.1)
def enc0 (x : S74) : List Value := [.int .i64 x.f0, .int .i64 x.f1]
def enc (x : Sm) : List Value := enc0 x.1
def cf (x y : Sm) : Int := x.1.f0 - y.1.f0
theorem lt_is (x y : Sm) : ltOf cf x y = decide (x.1.f0 < y.1.f0) := by
  simp only [ltOf, cf]
  exact decide_eq_decide.mpr (by omega)
theorem swo : SWO (ltOf cf) := by
  have e : ltOf cf = fun x y => decide (x.1.f0 < y.1.f0) := by
    funext x y
    exact lt_is x y
  rw [e]
  exact ⟨fun x => decide_eq_false (Int.lt_irrefl _), fun x y z h1 h2 => decide_eq_true (Int.lt_trans (of_decide_eq_true h1) (of_decide_eq_true h2)), fun x y z h1 h2 => decide_eq_false (by have h3 := of_decide_eq_false h1; have h4 := of_decide_eq_false h2; omega)⟩
theorem world2 (W : World) (a b : Obj) (q : Nat) : ((W.alloc a).alloc b).drewN q = grow (W.drewN q) #[a, b] := by
  have h : (W.heap.push a).push b = W.heap ++ #[a, b] := by
    apply Array.ext'
    simp
  show { W with heap := (W.heap.push a).push b, drawn := W.drawn + q } = { W with heap := W.heap ++ #[a, b], drawn := W.drawn + q }
  rw [h]
set_option maxHeartbeats 1000000 in
theorem cmp (x y : Sm) (W : World) : Calls Try.prog 61 #[.agg (enc x).toArray, .agg (enc y).toArray] W fun e w' => e = .returned (.int .i64 (cf x y)) ∧ ∃ q os', w' = grow (W.drewN q) os' := by
  obtain ⟨⟨x0, x1⟩, hx0, hx1⟩ := x
  obtain ⟨⟨y0, y1⟩, hy0, hy1⟩ := y
  dsimp only at hx0 hx1 hy0 hy1
  have hw : wrap64 (x0 - y0) = x0 - y0 := by unfold wrap64; omega
  show Calls Try.prog 61 #[.agg #[.int .i64 x0, .int .i64 x1], .agg #[.int .i64 y0, .int .i64 y1]] W fun e w' => e = .returned (.int .i64 (x0 - y0)) ∧ ∃ q os', w' = grow (W.drewN q) os'
  rw [← hw]
  clear hx0 hx1 hy0 hy1 hw
  have hu := Try.underlying74
  go_enter Try.func61, Try.ntmps61
  go_wp2
  go_ret
  exact ⟨rfl, 0, _, world2 _ _ _ 0⟩
/-- By page. -/
def sorted (l : List S74) : List S74 := l.mergeSort fun x y => !decide (y.f0 < x.f0)
theorem back (l : List Sm) : (l.mergeSort fun x y => !(ltOf cf) y x).map (·.1) = sorted (l.map (·.1)) := by
  unfold sorted
  exact List.map_mergeSort (fun a _ c _ => by rw [lt_is])
theorem flat (l : List Sm) : (l.map (·.1)).flatMap enc0 = l.flatMap enc := by
  rw [List.flatMap_map]
  rfl
theorem sort (b : Nat) (v : Value) (l : List S74) (w : World) (hb : b ≤ w.heap.size) (hr : k74.R 74 w b (fun _ => True) v l) (hs : ∀ x ∈ l, 0 ≤ x.f0 ∧ x.f0 < 4294967296) (hd : ∀ x ∈ l, ∀ y ∈ l, x.f0 = y.f0 → x = y) (hlen : l.length < 4611686018427387904) :
    Calls Try.prog 60 #[v, .func (.func 61) #[] #[]] w fun e w' => e = .returned (.tuple #[]) ∧ k74.R 74 w' b (fun _ => True) v (sorted l) ∧ Below b w w' ∧ Kept w w' (fun k => some k = v.ownBlock) := by
  obtain ⟨l', rfl⟩ : ∃ l' : List Sm, l = l'.map (·.1) := ⟨l.attach.map (fun x => ⟨x.1, hs x.1 x.2⟩), by rw [List.map_map]; exact (List.attach_map_subtype_val l).symm⟩
  have hO := Ytcnkacbgcmnokaa.OwnK.own_of_R (enc := enc0) (k := 2) rfl (fun _ => rfl) (fun {_ _ _ _ _} hM => k74_openM hM) hr
  have hR : dS.R 74 w b (fun k => some k = v.ownBlock) v l' := Ytcnkacbgcmnokaa.OwnK.R_of_own (enc := enc) (k := 2) rfl (fun _ => rfl) (fun w base ok x => k74_mkM w base ok x.1) (by rw [List.length_map, flat] at hO; exact hO) (fun g hg => hg.symm)
  obtain ⟨w0, hw0⟩ : ∃ w0 : World, w0 = { w with heap := w.heap.extract 0 b } := ⟨_, rfl⟩
  have hz : w0.heap.size = b := by
    rw [hw0]
    show (w.heap.extract 0 b).size = b
    simp
    omega
  have hB : Below w0.heap.size w0 w := by
    refine ⟨by rw [hw0], by rw [hw0], by rw [hw0], by rw [hz]; exact hb, fun k hk => ?_⟩
    rw [hz] at hk
    rw [hw0]
    show w.heap[k]? = (w.heap.extract 0 b)[k]?
    rw [Array.getElem?_extract, if_pos (by omega), Nat.zero_add]
  have h := Ytcnkacbgcmnokaa.OwnS.calls Try.sortHeld 2 (fun w => by kernel_rfl) (fun w => by kernel_rfl) enc (fun _ => rfl) (fun x v hv => by
    simp only [enc, enc0, List.mem_cons, List.not_mem_nil, or_false] at hv
    rcases hv with rfl | rfl <;> rfl) cf swo 61 (enters_of Try.func61 (by kernel_rfl) rfl) cmp (d := dS) rfl (fun {_ _ _ _ _} hM => k74_openM hM) (fun w base ok x => k74_mkM w base ok x.1) 74 (fun k => some k = v.ownBlock) v l' w0 w hB (by rw [hz]; exact hR) (by rw [List.length_map] at hlen; exact hlen) (fun x hx y hy h1 h2 => by
      rw [lt_is, decide_eq_false_iff_not] at h1 h2
      exact Subtype.ext (hd x.1 (List.mem_map_of_mem hx) y.1 (List.mem_map_of_mem hy) (by omega)))
  refine h.mono ?_
  rintro e w' ⟨rfl, hr', hB', hK'⟩
  rw [hz] at hr' hB'
  refine ⟨rfl, ?_, ⟨hB'.os.trans (by rw [hw0]), hB'.tape.trans (by rw [hw0]), hB'.output.trans (by rw [hw0]), hK'.1, fun k hk => (hB'.block k hk).trans (hB.block k (by rw [hz]; exact hk)).symm⟩, hK'⟩
  have hO' := Ytcnkacbgcmnokaa.OwnK.own_of_R (enc := enc) (k := 2) rfl (fun _ => rfl) (fun {_ _ _ _ _} hM => k74_openM hM) hr'
  rw [← flat] at hO'
  rw [← back]
  exact Ytcnkacbgcmnokaa.OwnK.R_of_own (enc := enc0) (k := 2) rfl (fun _ => rfl) (fun w base ok x => k74_mkM w base ok x) (by rw [List.length_map]; exact hO') (fun g hg => trivial)
end Go.Proofs.Ytcnkacbgcmnokaa.XR.Sorth
