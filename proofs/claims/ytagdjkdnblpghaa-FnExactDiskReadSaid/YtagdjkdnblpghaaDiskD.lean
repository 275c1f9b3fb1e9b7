/- Sizes, copies and likeness of disks, and the disk's test on both sides; plain lemmas. -/
import Derived.Test.YtagdjkdnblpghaaXD1
import Derived.Test.YtagdjkdnblpghaaXD2
import Derived.Test.YtagdjkdnblpghaaXD3
import Derived.Test.YtagdjkdnblpghaaLoops
import Derived.Test.YtagdjkdnblpghaaXDHDiskOK
namespace Go.Proofs.Ytagdjkdnblpghaa.DiskD
open Go Go.RowKit Go.Proofs.Ytagdjkdnblpghaa.XD Go.Proofs.YtagdjkdnblpghaaW.PrintWords Go.Proofs.YtagdjkdnblpghaaW.PrintLast Go.Proofs.YtagdjkdnblpghaaW.PrintMore Go.Proofs.Ytagdjkdnblpghaa.Aid Go.Proofs.Ytagdjkdnblpghaa.Loops

def conv (x : S126) : S92 := ⟨x.f0, x.f1⟩
theorem rd126 (xs : List S126) (i : Nat) (h : i < xs.length) : rd_T126 xs (i : Int) = xs[i] := by
  simp [rd_T126, List.getD_eq_getElem?_getD, List.getElem?_eq_getElem h]
theorem rd92 (xs : List S92) (i : Nat) (h : i < xs.length) : rd_T92 xs (i : Int) = xs[i] := by
  simp [rd_T92, List.getD_eq_getElem?_getD, List.getElem?_eq_getElem h]
theorem rdS (xs : List ByteArray) (i : Nat) (h : i < xs.length) : rdOf ByteArray.empty xs (i : Int) = xs[i] := by
  simp [rdOf, List.getD_eq_getElem?_getD, List.getElem?_eq_getElem h]

theorem texts_size (xs : List ByteArray) (hl : xs.length ≤ 9223372036854775807) (hw : ∀ x ∈ xs, x.size ≤ 9223372036854775807) (a : Int) (h0 : 0 ≤ a) (h1 : a ≤ 1048576) :
    ∃ r, Ev (fun k => laws_szStringS.f k xs a) r ∧ r ≤ a ∧ (0 ≤ r → xs.length ≤ 1048576) :=
  szL xs.length hl _ (fun k a => laws_szStringS.l0 k xs a 0) (fun hs => szP (fun k a i => laws_szStringS.l0 k xs a i) xs.length (fun i => ((rdOf ByteArray.empty xs i).size : Int)) (by omega)
    (fun i hi => by rw [rdS xs i hi]; have := hw xs[i] (List.getElem_mem hi); omega) (fun _ _ _ => rfl)) (fun _ _ => rfl) a h0 h1
theorem writes_size (xs : List S126) (hl : xs.length ≤ 9223372036854775807) (hw : ∀ x ∈ xs, x.f1.size ≤ 9223372036854775807) (a : Int) (h0 : 0 ≤ a) (h1 : a ≤ 1048576) :
    ∃ r, Ev (fun k => laws_szPendingS.f k xs a) r ∧ r ≤ a ∧ (0 ≤ r → xs.length ≤ 1048576) :=
  szL xs.length hl _ (fun k a => laws_szPendingS.l0 k xs a 0) (fun hs => szE (fun k a i => laws_szPendingS.l0 k xs a i) xs.length (fun _ a i => laws_szPending.f (rd_T126 xs i).f0 (rd_T126 xs i).f1 a) 1048576 (by omega)
    (fun i hi a h0 h1 => by
      have h := hw xs[i] (List.getElem_mem hi)
      unfold laws_szPending.f
      rw [rd126 xs i hi, sz_text a xs[i].f1.size h0 h1 (by omega) (by omega)]
      by_cases hn : a - (xs[i].f1.size : Int) < 0
      · exact ⟨-1, Ev.congr (fun _ => if_pos hn) (Ev.now _), by omega⟩
      · exact ⟨_, Ev.congr (fun _ => if_neg hn) (Ev.now _), by omega⟩) (fun _ _ _ => rfl)) (fun _ _ => rfl) a h0 h1
theorem disk_size (l : List ByteArray) (m : List S126) (hl : l.length ≤ 9223372036854775807) (hw : ∀ x ∈ l, x.size ≤ 9223372036854775807) (hl' : m.length ≤ 9223372036854775807) (hw' : ∀ x ∈ m, x.f1.size ≤ 9223372036854775807) (a : Int) (h0 : 0 ≤ a) (h1 : a ≤ 1048576) :
    ∃ r, Ev (fun k => laws_szDisk.f k l m a) r ∧ r ≤ a ∧ (0 ≤ r → l.length ≤ 1048576 ∧ m.length ≤ 1048576) := by
  unfold laws_szDisk.f
  obtain ⟨r, hr, hra, hrl⟩ := texts_size l hl hw a h0 h1
  by_cases hn : r < 0
  · exact ⟨-1, Ev.bind hr (Ev.congr (fun _ => if_pos hn) (Ev.now _)), by omega, by omega⟩
  obtain ⟨s, hs, hsa, hsl⟩ := writes_size m hl' hw' r (by omega) (by omega)
  by_cases hn' : s < 0
  · exact ⟨-1, Ev.bind hr (Ev.congr (fun _ => if_neg hn) (Ev.bind hs (Ev.congr (fun _ => if_pos hn') (Ev.now _)))), by omega, by omega⟩
  · exact ⟨s, Ev.bind hr (Ev.congr (fun _ => if_neg hn) (Ev.bind hs (Ev.congr (fun _ => if_neg hn') (Ev.now _)))), by omega, fun _ => ⟨hrl (by omega), hsl (by omega)⟩⟩
theorem disk_copy (l : List ByteArray) (m : List S126) (hl : l.length ≤ 1048576) (hm : m.length ≤ 1048576) : Ev (fun k => laws_toDisk.f k l m) (l, m.map conv) := by
  unfold laws_toDisk.f
  refine Ev.bind (a := l) ?_ (Ev.bind (a := m.map conv) ?_ (Ev.now _))
  · have h := copyE (fun k ys i => laws_toStringS.l0 k l ys i) l id (fun _ i => some (rdOf ByteArray.empty l i)) (⟨#[]⟩ : ByteArray) (by omega) (fun i hi => by rw [rdS l i hi]; exact Ev.now _) (fun _ _ _ => rfl)
    rw [List.map_id] at h
    refine Ev.congr (fun k => ?_) h
    unfold laws_toStringS.f
    rw [if_pos (by omega), if_pos (by omega), Int.toNat_natCast]
  · have h := copyE (fun k ys i => laws_toPendingS.l0 k m ys i) m conv (fun _ i => some (conv (rd_T126 m i))) z92 (by omega) (fun i hi => by rw [rd126 m i hi]; exact Ev.now _) (fun _ _ _ => rfl)
    refine Ev.congr (fun k => ?_) h
    unfold laws_toPendingS.f
    rw [if_pos (by omega), if_pos (by omega), Int.toNat_natCast]
theorem disk_same (l : List ByteArray) (m : List S92) (hl : l.length ≤ 1048576) (hm : m.length ≤ 1048576) : Ev (fun k => laws_eqDisk.f k l m l m) true := by
  unfold laws_eqDisk.f
  refine Ev.bind (a := true) ?_ (Ev.congr (fun _ => if_pos rfl) (Ev.bind (a := true) ?_ (Ev.congr (fun _ => if_pos rfl) (Ev.now _))))
  · refine Ev.congr (fun k => if_pos rfl) ?_
    exact eqP (fun k i => laws_eqStringS.l0 k l l i) l.length (l.length : Int) (fun i => (rdOf ByteArray.empty l i).toList = (rdOf ByteArray.empty l i).toList) (by omega) rfl (fun _ => rfl) (fun _ _ => rfl)
  · refine Ev.congr (fun k => if_pos rfl) ?_
    exact eqE (fun k i => laws_eqPendingS.l0 k m m i) m.length (m.length : Int) (fun _ i => laws_eqPending.f (rd_T92 m i).f0 (rd_T92 m i).f1 (rd_T92 m i).f0 (rd_T92 m i).f1) (by omega) rfl (fun i _ => by unfold laws_eqPending.f; exact Ev.congr (fun _ => if_pos rfl) (Ev.congr (fun _ => if_pos rfl) (Ev.now _))) (fun _ _ => rfl)

/-! The test -/
def within (x l h : Int) : Bool := if x ≥ l then decide (x ≤ h) else false
theorem within_impl (x l h : Int) : impl_within.f x l h = some (within x l h) := by
  unfold impl_within.f within
  split <;> rfl
theorem within_spec (x l h : Int) : spec_l01In.f x l h = some (within x l h) := by
  unfold spec_l01In.f within
  split <;> rfl
def okW (n : Nat) (x : S92) : Bool := within x.f0 0 ((n : Int) - 1) && decide ((x.f1.size : Int) = 32)
def ok (l : List ByteArray) (m : List S92) : Bool := within (l.length : Int) 1 256 && decide ((m.length : Int) ≤ 4096) && l.all (fun s => decide ((s.size : Int) = 32)) && m.all (okW l.length)
theorem ok_short {l : List ByteArray} {m : List S92} (h : ok l m = true) : 1 ≤ l.length ∧ l.length ≤ 256 ∧ m.length ≤ 4096 := by
  unfold ok within at h
  simp only [Bool.and_eq_true, decide_eq_true_eq] at h
  obtain ⟨⟨⟨h1, h2⟩, _⟩, _⟩ := h
  split at h1
  · have := of_decide_eq_true h1
    omega
  · cases h1
theorem impl_ok (l : List ByteArray) (m : List S92) (hl : l.length ≤ 1048576) : impl_DiskOK.f l m = some (ok l m) := by
  unfold impl_DiskOK.f ok
  have h1 : impl_DiskOK.w (l.length : Int) 1 256 = within (l.length : Int) 1 256 := by
    unfold impl_DiskOK.w
    rw [within_impl]
    rfl
  have h2 : (!l.any impl_DiskOK.p) = l.all (fun s => decide ((s.size : Int) = 32)) := by
    rw [List.not_any_eq_all_not]
    congr 1
    funext s
    show (!((s.size : Int) != 32)) = decide ((s.size : Int) = 32)
    by_cases h : (s.size : Int) = 32 <;> simp [h]
  have h3 : (!m.any (impl_DiskOK.q l m)) = m.all (okW l.length) := by
    rw [List.not_any_eq_all_not]
    congr 1
    funext x
    unfold impl_DiskOK.q impl_DiskOK.h impl_Disk_hasSector.f okW
    rw [within_impl, wrap_id (x := (l.length : Int) - 1) (by omega) (by omega)]
    cases within x.f0 0 ((l.length : Int) - 1) <;> by_cases h : (x.f1.size : Int) = 32 <;> simp [h]
  rw [h1, h2, h3]
  congr 1
  cases within (l.length : Int) 1 256 <;> cases l.all (fun s => decide ((s.size : Int) = 32)) <;> cases decide ((m.length : Int) ≤ 4096) <;> cases m.all (okW l.length) <;> rfl
theorem spec_ok (l : List ByteArray) (m : List S92) (hl : l.length ≤ 1048576) (hm : m.length ≤ 1048576) : Ev (fun k => spec_DiskOK.f k l m) (ok l m) := by
  unfold spec_DiskOK.f ok
  simp only [within_spec, Option.bind_some]
  cases hw : within (l.length : Int) 1 256 with
  | false =>
    simp only [Bool.false_and, Bool.false_eq_true, if_false]
    exact Ev.step (f := fun _ => some false) (fun k => by simp only [spec_DiskOK.j0, if_true]) (Ev.now _)
  | true =>
    simp only [if_true, Bool.true_and]
    by_cases h4 : (m.length : Int) > 4096
    · rw [decide_eq_true h4, decide_eq_false (by omega), Bool.false_and]
      exact Ev.step (f := fun _ => some false) (fun k => by simp only [spec_DiskOK.j0, if_true]) (Ev.now _)
    · rw [decide_eq_false h4, decide_eq_true (by omega), Bool.true_and]
      refine Ev.step (f := fun k => spec_DiskOK.l0 k 0 l m) (fun k => by simp only [spec_DiskOK.j0, Bool.false_eq_true, if_false]) ?_
      have e1 : Ev (fun k => spec_DiskOK.l1 k 0 l m) (m.all (okW l.length)) := by
        have h := allE (fun k i => spec_DiskOK.l1 k i l m) m.length (fun i => okW l.length (m.getD i z92)) true
          (fun _ i => (spec_l01In.f (rd_T92 m i).f0 0 (wrap64 ((l.length : Int) - 1))).bind fun t => if t = true then (if ((rd_T92 m i).f1.size : Int) = 32 then some true else some false) else some false) (fun _ _ => some true) (by omega)
          (fun i hi => by
            have hr : rd_T92 m (i : Int) = m.getD i z92 := rfl
            rw [hr, within_spec, wrap_id (x := (l.length : Int) - 1) (by omega) (by omega)]
            unfold okW
            cases within (m.getD i z92).f0 0 ((l.length : Int) - 1) <;> by_cases h : (((m.getD i z92).f1.size : Nat) : Int) = 32 <;> simp only [h, Option.bind_some, if_true, if_false, decide_true, decide_false, Bool.and_false, Bool.and_true, Bool.false_eq_true] <;> exact Ev.now _)
          (Ev.now _) (fun k i => by
            simp only [spec_DiskOK.l1]
            by_cases h1 : i < (m.length : Int)
            · by_cases h2 : 0 ≤ i
              · simp only [if_pos h1, if_pos h2]
                rw [within_spec]
                simp only [Option.bind_some]
                cases within (rd_T92 m i).f0 0 (wrap64 ((l.length : Int) - 1)) with
                | false => simp
                | true =>
                  by_cases h : ((rd_T92 m i).f1.size : Int) = 32
                  · simp only [h, if_true, Option.bind_some]
                  · simp only [h, if_true, if_false, Option.bind_some, Bool.false_eq_true]
              · simp only [if_pos h1, if_neg h2]
            · simp only [if_neg h1])
        rw [range_all m (okW l.length) z92, Bool.and_true] at h
        exact h
      have h := allE (fun k i => spec_DiskOK.l0 k i l m) l.length (fun i => decide (((l.getD i ByteArray.empty).size : Int) = 32)) (m.all (okW l.length)) (fun _ i => some (decide (((rdOf ByteArray.empty l i).size : Int) = 32))) (fun k _ => spec_DiskOK.l1 k 0 l m) (by omega)
        (fun i hi => Ev.now _) e1 (fun k i => by
          simp only [spec_DiskOK.l0, Option.bind_some, decide_eq_true_eq])
      rw [range_all l (fun s => decide ((s.size : Int) = 32)) ByteArray.empty] at h
      exact h
end Go.Proofs.Ytagdjkdnblpghaa.DiskD
