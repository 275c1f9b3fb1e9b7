/- What was written last in a sector, on both sides; plain lemmas. -/
import Derived.Test.YtagdjkdnblpghaaXD4
import Derived.Test.YtagdjkdnblpghaaXDHDiskRead_
import Derived.Test.YtagdjkdnblpghaaDiskD
namespace Go.Proofs.Ytagdjkdnblpghaa.DiskE
open Go Go.RowKit Go.Proofs.Ytagdjkdnblpghaa.XD Go.Proofs.YtagdjkdnblpghaaW.PrintWords Go.Proofs.YtagdjkdnblpghaaW.PrintLast Go.Proofs.YtagdjkdnblpghaaW.PrintMore Go.Proofs.Ytagdjkdnblpghaa.Aid Go.Proofs.Ytagdjkdnblpghaa.Loops Go.Proofs.Ytagdjkdnblpghaa.DiskD
set_option linter.unusedVariables false

theorem read_ev (l : List ByteArray) (m : List S92) (a : Int) (h0 : 0 ≤ a) (h1 : a < (l.length : Int)) (hm : m.length ≤ 1048576) : ∃ v, impl_Disk_read.f l m a = some v ∧ Ev (fun k => spec_l02Read.f k l m a) v := by
  have hex : ∃ v, impl_Disk_read.f l m a = some v := by
    unfold impl_Disk_read.f
    cases (impl_Disk_read.back m m.length).find? (fun x => x.2.f0 == a) with
    | some x => exact ⟨_, rfl⟩
    | none => exact ⟨_, by simp only [if_pos h0, if_pos h1]; rfl⟩
  obtain ⟨v, hv⟩ := hex
  refine ⟨v, hv, ?_⟩
  have key : ∀ (d k : Nat), k + d = m.length → (∀ y ∈ impl_Disk_read.back m k, y.2.f0 ≠ a) → Ev (fun n => spec_l02Read.l0 n a ((m.length : Int) - 1 - k) l m) v := by
    intro d
    induction d with
    | zero =>
      intro k hk hn
      obtain rfl : k = m.length := by omega
      unfold impl_Disk_read.f at hv
      rw [impl_Disk_read.find_done m a hn] at hv
      simp only [if_pos h0, if_pos h1] at hv
      obtain rfl := Option.some.inj hv
      exact Ev.step (f := fun _ => some _) (fun n => by simp only [spec_l02Read.l0]; rw [if_neg (by omega), if_pos h0, if_pos h1]) (Ev.now _)
    | succ d ih =>
      intro k hk hn
      have hrd : rd_T92 m ((m.length : Int) - 1 - k) = (impl_Disk_read.nth m k).2 := by
        show m.getD _ _ = _
        rw [show ((m.length : Int) - 1 - k).toNat = m.length - 1 - k by omega]
        rfl
      by_cases hx : (impl_Disk_read.nth m k).2.f0 = a
      · unfold impl_Disk_read.f at hv
        rw [impl_Disk_read.find_stop m (k + 1) (by omega) (impl_Disk_read.back m k) (impl_Disk_read.nth m k) (impl_Disk_read.back_succ m k).symm a hn hx] at hv
        obtain rfl := Option.some.inj hv
        exact Ev.step (f := fun _ => some _) (fun n => by simp only [spec_l02Read.l0]; rw [if_pos (by omega), if_pos (by omega), if_pos (by omega), hrd, if_pos hx]) (Ev.now _)
      · refine Ev.step (fun n => ?_) (ih (k + 1) (by omega) (fun y hy => ?_))
        · simp only [spec_l02Read.l0]
          rw [if_pos (by omega), if_pos (by omega), if_pos (by omega), hrd, if_neg hx, wrap_id (by omega) (by omega), show (m.length : Int) - 1 - k - 1 = (m.length : Int) - 1 - ((k + 1 : Nat) : Int) by omega]
        · rw [impl_Disk_read.back_succ] at hy
          rcases List.mem_append.1 hy with hy | hy
          · exact hn y hy
          · simp at hy
            subst hy
            exact hx
  have := key m.length 0 (by omega) (by simp [impl_Disk_read.back])
  unfold spec_l02Read.f
  rw [wrap_id (x := (m.length : Int) - 1) (by omega) (by omega)]
  simpa using this
end Go.Proofs.Ytagdjkdnblpghaa.DiskE
