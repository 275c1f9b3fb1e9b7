/- Four bytes of a number, the page's sum and the number that four bytes tell, on both sides; plain lemmas. -/
import Derived.Test.YtmjbacnioncicaaXF9
import Derived.Test.YtmjbacnioncicaaXF8
import Derived.Test.YtmjbacnioncicaaXF6
import Derived.Test.YtmjbacnioncicaaCrcF
namespace Go.Proofs.Ytmjbacnioncicaa.PageF
open Go Go.RowKit Go.Proofs.Ytmjbacnioncicaa.XF Go.Proofs.YtmjbacnioncicaaW.PrintWords Go.Proofs.YtmjbacnioncicaaW.PrintLast Go.Proofs.Ytmjbacnioncicaa.Aid Go.Proofs.Ytmjbacnioncicaa.CrcF

def four (n : Int) : List Int := [(n / 16777216) % 256, (n / 65536) % 256, (n / 256) % 256, n % 256]
theorem four_length (n : Int) : (four n).length = 4 := rfl
theorem four_range (n : Int) : ∀ x ∈ four n, 0 ≤ x ∧ x < 256 := by
  intro x hx
  simp only [four, List.mem_cons, List.not_mem_nil, or_false] at hx
  omega
theorem spec_four (n : Int) : spec_l03Four.f n = some (four n) := rfl

theorem shr_at (x : Int) (j : Nat) (hj : j ≤ 64) : shr .u64 x (j : Int) = x / 2 ^ j := by
  unfold shr
  rw [show min (j : Int).toNat IntKind.u64.bits = j by simp [IntKind.bits]; omega]

/-- The four bytes, taken down from the highest. -/
theorem high_four (n : Int) (k : Nat) : impl_highBytes.f (k + 5) (n % 4294967296) 4 = some (four n) := by
  unfold impl_highBytes.f
  rw [if_pos (by decide), if_pos (by decide)]
  obtain ⟨m, hm⟩ : ∃ m, m = n % 4294967296 := ⟨_, rfl⟩
  have e3 : wrap64 (8 * (wrap64 ((wrap64 (4 - 1)) - 0))) = ((24 : Nat) : Int) := by decide +kernel
  have e2 : wrap64 (8 * (wrap64 ((wrap64 (4 - 1)) - 1))) = ((16 : Nat) : Int) := by decide +kernel
  have e1 : wrap64 (8 * (wrap64 ((wrap64 (4 - 1)) - 2))) = ((8 : Nat) : Int) := by decide +kernel
  have e0 : wrap64 (8 * (wrap64 ((wrap64 (4 - 1)) - 3))) = ((0 : Nat) : Int) := by decide +kernel
  have i1 : wrap64 (0 + 1) = 1 := by decide +kernel
  have i2 : wrap64 (1 + 1) = 2 := by decide +kernel
  have i3 : wrap64 (2 + 1) = 3 := by decide +kernel
  have i4 : wrap64 (3 + 1) = 4 := by decide +kernel
  rw [← hm]
  simp only [Option.bind_some, show (4 : Int).toNat = 4 from rfl, List.replicate, List.length_cons, List.length_nil]
  rw [impl_highBytes.l0, if_pos (by decide), e3, if_pos (by decide), if_pos (by decide), if_pos (by decide), i1]
  rw [impl_highBytes.l0, if_pos (by decide), e2, if_pos (by decide), if_pos (by decide), if_pos (by simp), i2]
  rw [impl_highBytes.l0, if_pos (by decide), e1, if_pos (by decide), if_pos (by decide), if_pos (by simp), i3]
  rw [impl_highBytes.l0, if_pos (by decide), e0, if_pos (by decide), if_pos (by decide), if_pos (by simp), i4]
  rw [impl_highBytes.l0, if_neg (by decide)]
  rw [shr_at _ _ (by omega), shr_at _ _ (by omega), shr_at _ _ (by omega), shr_at _ _ (by omega)]
  simp only [show (0 : Int).toNat = 0 from rfl, show (1 : Int).toNat = 1 from rfl, show (2 : Int).toNat = 2 from rfl, show (3 : Int).toNat = 3 from rfl,
    List.set_cons_zero, List.set_cons_succ]
  unfold four
  subst hm
  have h0 : (n % 4294967296) / 2 ^ 24 % 256 = n / 16777216 % 256 := by omega
  have h1 : (n % 4294967296) / 2 ^ 16 % 256 = n / 65536 % 256 := by omega
  have h2 : (n % 4294967296) / 2 ^ 8 % 256 = n / 256 % 256 := by omega
  have h3 : (n % 4294967296) / 2 ^ 0 % 256 = n % 256 := by omega
  rw [h0, h1, h2, h3]

theorem impl_four (n : Int) : Ev (fun k => impl_four.f k n) (strOfNums (four n)) := by
  unfold impl_four.f
  exact Ev.bind ⟨5, fun k hk => by
    obtain ⟨m, rfl⟩ : ∃ m, k = m + 5 := ⟨k - 5, by omega⟩
    exact high_four n m⟩ (Ev.now _)

/-- What is summed: the page's number, the epoch, the bytes. -/
def pageOf (p e : Int) (bs : List Int) : List Int := [p % 256] ++ four e ++ bs
theorem pageOf_range (p e : Int) (bs : List Int) (hb : ∀ x ∈ bs, 0 ≤ x ∧ x < 256) : ∀ x ∈ pageOf p e bs, 0 ≤ x ∧ x < 256 := by
  intro x hx
  simp only [pageOf, List.mem_append, List.mem_cons, List.not_mem_nil, or_false] at hx
  rcases hx with (rfl | hx) | hx
  · omega
  · exact four_range e x hx
  · exact hb x hx
theorem pageOf_length (p e : Int) (bs : List Int) : (pageOf p e bs).length = 5 + bs.length := by
  simp [pageOf, four]
  omega

theorem spec_pageSum (p e : Int) (s : ByteArray) (hs : s.size ≤ 140737488351232) :
    Ev (fun k => spec_l03PageSum.f k p e s) (sum (pageOf p e (bytesOf s))) := by
  unfold spec_l03PageSum.f
  simp only [spec_four, Option.bind_some, four_length, List.length_cons, List.length_nil, List.length_append]
  refine Ev.congr (fun k => if_pos (by omega)) (Ev.congr (fun k => if_pos (by omega)) ?_)
  have h := spec_sum (pageOf p e (bytesOf s)) (pageOf_range p e _ (bytesOf_range s)) (by rw [pageOf_length, bytesOf_length]; omega)
  exact Ev.bind h (Ev.now _)

theorem impl_pageSum (p e : Int) (s : ByteArray) (hs : s.size ≤ 140737488351232) :
    Ev (fun k => impl_pageSum.f k p e s) (strOfNums (four (sum (pageOf p e (bytesOf s))))) := by
  unfold impl_pageSum.f
  simp only [Option.bind_some]
  refine Ev.bind (impl_four e) ?_
  have hz : (strOfNums [p % 256]).size + (strOfNums (four e)).size = 5 := by
    rw [strOfNums_size, strOfNums_size]
    rfl
  have hz' : (strOfNums [p % 256] ++ strOfNums (four e)).size = 5 := by rw [ByteArray.size_append]; exact hz
  refine Ev.congr (fun k => if_pos (by omega)) (Ev.congr (fun k => if_pos (by omega)) ?_)
  have h := impl_sum (strOfNums [p % 256] ++ strOfNums (four e) ++ s) (by rw [ByteArray.size_append]; omega)
  have hb : bytesOf (strOfNums [p % 256] ++ strOfNums (four e) ++ s) = pageOf p e (bytesOf s) := by
    rw [bytesOf_append, bytesOf_append, bytesOf_strOfNums _ (four_range e), bytesOf_strOfNums [p % 256] (by intro x hx; simp at hx; omega)]
    rfl
  rw [hb] at h
  exact Ev.bind h (Ev.bind (impl_four _) (Ev.now _))

/-- The number that four bytes tell. -/
def told (s : ByteArray) : Int := ((bt s 0 * 256 + bt s 1) * 256 + bt s 2) * 256 + bt s 3
theorem bytes_four (s : ByteArray) (hs : s.size = 4) : bytesOf s = [bt s 0, bt s 1, bt s 2, bt s 3] := by
  have hl : (bytesOf s).length = 4 := by rw [bytesOf_length, hs]
  obtain ⟨a, b, c, d, h⟩ : ∃ a b c d, bytesOf s = [a, b, c, d] := by
    match hb : bytesOf s, hl with
    | [a, b, c, d], _ => exact ⟨a, b, c, d, rfl⟩
  rw [← rd_bytesOf, ← rd_bytesOf, ← rd_bytesOf, ← rd_bytesOf, h]
  rfl
theorem told_four (s : ByteArray) (hs : s.size = 4) (n : Int) (h0 : 0 ≤ n) (h1 : n < 4294967296) : s = strOfNums (four n) ↔ n = told s := by
  have b0 := bt_range s 0
  have b1 := bt_range s 1
  have b2 := bt_range s 2
  have b3 := bt_range s 3
  have hb := bytes_four s hs
  constructor
  · intro h
    have hf : bytesOf s = four n := by rw [h, bytesOf_strOfNums _ (four_range n)]
    rw [hb] at hf
    unfold four at hf
    simp only [List.cons.injEq, and_true] at hf
    unfold told
    omega
  · intro h
    rw [← strOfNums_bytesOf s]
    congr 1
    rw [hb]
    unfold four
    unfold told at h
    simp only [List.cons.injEq, and_true]
    omega
theorem toList_iff (s t : ByteArray) : s.toList = t.toList ↔ s = t := by
  constructor
  · intro h
    rw [ByteArray.toList_eq, ByteArray.toList_eq] at h
    exact ByteArray.ext (Array.ext' h)
  · rintro rfl
    rfl
end Go.Proofs.Ytmjbacnioncicaa.PageF
