/- For every text of at most 2^20 bytes the program's ReadMeta answers what the reference's answers; no condition. -/
import Derived.Test.YtmjbacnioncicaaXF9
import Derived.Test.YtmjbacnioncicaaXF8
import Derived.Test.YtmjbacnioncicaaXF6
import Derived.Test.YtmjbacnioncicaaMetaF
namespace Go.Proofs.Ytmjbacnioncicaa.RMetaF
open Go Go.RowKit Go.Proofs.Ytmjbacnioncicaa.XF Go.Proofs.YtmjbacnioncicaaW.PrintWords Go.Proofs.YtmjbacnioncicaaW.PrintLast Go.Proofs.Ytmjbacnioncicaa.Aid Go.Proofs.Ytmjbacnioncicaa.CrcF Go.Proofs.Ytmjbacnioncicaa.PageF Go.Proofs.Ytmjbacnioncicaa.MetaF

theorem or_next (x b : Int) (h0 : 0 ≤ x) (h1 : x < 16777216) (hb : 0 ≤ b ∧ b ≤ 255) : Go.bits .or .u64 (IntKind.u64.wrap (x * 256)) (IntKind.u64.wrap b) = x * 256 + b := by
  have hw : ∀ n : Int, 0 ≤ n → n < 2 ^ 32 → IntKind.u64.wrap n = n := by
    intro n h0 h1
    simp [IntKind.wrap, IntKind.bits, IntKind.signed]
    omega
  rw [hw (x * 256) (by omega) (by omega), hw b (by omega) (by omega)]
  exact bits_join .u64 32 (by decide) hw 8 (x * 256) b (by omega) (by omega) (by omega) hb.1 (by omega) (by omega)
theorem or_i64 (x b : Int) (h0 : 0 ≤ x) (h1 : x < 16777216) (hb : 0 ≤ b ∧ b ≤ 255) : Go.bits .or .i64 (wrap64 (wrap64 x * 256)) (wrap64 b) = x * 256 + b := by
  have hw : ∀ n : Int, 0 ≤ n → n < 2 ^ 32 → IntKind.i64.wrap n = n := by
    intro n h0 h1
    rw [IntKind.wrap_i64]
    omega
  rw [wrap_id (x := x) (by omega) (by omega), wrap_id (x := x * 256) (by omega) (by omega), wrap_id (x := b) (by omega) (by omega)]
  exact bits_join .i64 32 (by decide) hw 8 (x * 256) b (by omega) (by omega) (by omega) hb.1 (by omega) (by omega)

theorem impl_told (s : ByteArray) (hs : s.size = 4) (k : Nat) : impl_highNumber_string.f (k + 5) s = some (told s) := by
  unfold impl_highNumber_string.f
  have b0 := bt_range s 0
  have b1 := bt_range s 1
  have b2 := bt_range s 2
  have b3 := bt_range s 3
  have i1 : wrap64 (0 + 1) = 1 := by decide +kernel
  have i2 : wrap64 (1 + 1) = 2 := by decide +kernel
  have i3 : wrap64 (2 + 1) = 3 := by decide +kernel
  have i4 : wrap64 (3 + 1) = 4 := by decide +kernel
  rw [impl_highNumber_string.l0, if_pos (by omega), if_pos (by decide), if_pos (by omega), i1, or_next 0 (bt s 0) (by omega) (by omega) b0]
  rw [impl_highNumber_string.l0, if_pos (by omega), if_pos (by decide), if_pos (by omega), i2, or_next _ (bt s 1) (by omega) (by omega) b1]
  rw [impl_highNumber_string.l0, if_pos (by omega), if_pos (by decide), if_pos (by omega), i3, or_next _ (bt s 2) (by omega) (by omega) b2]
  rw [impl_highNumber_string.l0, if_pos (by omega), if_pos (by decide), if_pos (by omega), i4, or_next _ (bt s 3) (by omega) (by omega) b3]
  rw [impl_highNumber_string.l0, if_neg (by omega)]
  unfold told
  congr 1
  omega
theorem bt_extract (s : ByteArray) (a b i : Nat) (h : a + i < b) (hb : b ≤ s.size) : bt (s.extract a b) (i : Int) = bt s ((a + i : Nat) : Int) := by
  unfold bt
  have h1 : (i : Int).toNat < (s.extract a b).size := by rw [ByteArray.size_extract]; omega
  have h2 : ((a + i : Nat) : Int).toNat < s.size := by omega
  rw [dif_pos h1, dif_pos h2]
  simp only [Int.toNat_natCast]
  rw [ByteArray.getElem_extract]

def rd7 (s : ByteArray) : Int := bt s 7 * 256 + bt s 8
def good (s : ByteArray) : Bool := ok (told (s.extract 2 6)) (bt s 6) (rd7 s) && decide (page (told (s.extract 2 6)) (bt s 6) (rd7 s) = s)
def ans (s : ByteArray) : Int × Int × Int × Int := if good s = true then (told (s.extract 2 6), bt s 6, rd7 s, 0) else (0, 0, 0, 3)

theorem told_range (s : ByteArray) : 0 ≤ told s ∧ told s < 4294967296 := by
  have b0 := bt_range s 0
  have b1 := bt_range s 1
  have b2 := bt_range s 2
  have b3 := bt_range s 3
  unfold told
  omega
theorem rd7_range (s : ByteArray) : 0 ≤ rd7 s ∧ rd7 s < 65536 := by
  have b0 := bt_range s 7
  have b1 := bt_range s 8
  unfold rd7
  omega
theorem ok_len {e f l : Int} (h : ok e f l = true) : 0 ≤ l ∧ l ≤ 3000 := by
  unfold ok at h
  have := of_decide_eq_true h
  omega

theorem impl_read (s : ByteArray) (h : s.size = 32) : Ev (fun k => impl_ReadMeta.f k s) (ans s) := by
  have h4 : (s.extract 2 6).size = 4 := by rw [ByteArray.size_extract]; omega
  have w6 : wrap64 (bt s 6) = bt s 6 := by
    have := bt_range s 6
    exact wrap_id (by omega) (by omega)
  have b7 := bt_range s 7
  have b8 := bt_range s 8
  have h7 : Go.bits .or .i64 (wrap64 ((wrap64 (bt s 7)) * 256)) (wrap64 (bt s 8)) = rd7 s := or_i64 (bt s 7) (bt s 8) (by omega) (by omega) b8
  have ht := told_range (s.extract 2 6)
  unfold impl_ReadMeta.f
  refine Ev.bind (Ev.congr (fun _ => long_one s) (Ev.now _)) ?_
  refine Ev.congr (fun k => if_neg (by simp; omega)) (Ev.congr (fun k => if_pos (by omega)) (Ev.congr (fun k => if_pos (by omega)) (Ev.congr (fun k => if_pos (by omega)) ?_)))
  refine Ev.bind (a := told (s.extract 2 6)) ⟨5, fun k hk => by
      obtain ⟨m, rfl⟩ : ∃ m, k = m + 5 := ⟨k - 5, by omega⟩
      exact impl_told _ h4 m⟩ ?_
  refine Ev.congr (fun k => if_pos (by omega)) (Ev.congr (fun k => if_pos (by omega)) (Ev.congr (fun k => if_pos (by omega)) ?_))
  rw [w6, h7, wrap_id (x := told (s.extract 2 6)) (by omega) (by omega)]
  refine Ev.bind (Ev.congr (fun _ => impl_ok _ _ _) (Ev.now _)) ?_
  unfold ans good
  cases hk : ok (told (s.extract 2 6)) (bt s 6) (rd7 s) with
  | false => exact Ev.congr (fun k => if_neg (by simp)) (Ev.now _)
  | true =>
    refine Ev.congr (fun k => if_pos rfl) ?_
    refine Ev.bind (impl_meta _ _ _) ?_
    by_cases hq : page (told (s.extract 2 6)) (bt s 6) (rd7 s) = s
    · have e : (true && decide (page (told (s.extract 2 6)) (bt s 6) (rd7 s) = s)) = true := by simp [hq]
      simp only [e, if_true]
      exact Ev.congr (fun k => if_pos ((toList_iff _ _).2 hq)) (Ev.now _)
    · have e : (true && decide (page (told (s.extract 2 6)) (bt s 6) (rd7 s) = s)) = false := by simp [hq]
      simp only [e, Bool.false_eq_true, if_false]
      exact Ev.congr (fun k => if_neg (fun hc => hq ((toList_iff _ _).1 hc))) (Ev.now _)
end Go.Proofs.Ytmjbacnioncicaa.RMetaF
