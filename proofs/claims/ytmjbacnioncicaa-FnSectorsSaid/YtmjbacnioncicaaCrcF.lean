/- The check sum as a plain function on natural numbers; both sides' loops compute it for every list of bytes of at most 140737488351232 bytes. -/
import Derived.Test.YtmjbacnioncicaaXF9
import Derived.Test.YtmjbacnioncicaaXF8
import Derived.Test.YtmjbacnioncicaaXF6
import Derived.Test.YtmjbacnioncicaaAid
import Derived.Laws.BitsLemmas
namespace Go.Proofs.Ytmjbacnioncicaa.CrcF
open Go Go.RowKit Go.Proofs.Ytmjbacnioncicaa.XF Go.Proofs.YtmjbacnioncicaaW.PrintWords Go.Proofs.YtmjbacnioncicaaW.PrintLast Go.Proofs.Ytmjbacnioncicaa.Aid

def one (c : Nat) : Nat := if c % 2 = 1 then (c / 2) ^^^ 3988292384 else c / 2
def many : Nat → Nat → Nat
  | 0, c => c
  | j + 1, c => many j (one c)
def byte (c b : Nat) : Nat := many 8 (c ^^^ b)
def all : Nat → List Nat → Nat
  | c, [] => c
  | c, b :: bs => all (byte c b) bs

theorem one_lt {c : Nat} (h : c < 2 ^ 32) : one c < 2 ^ 32 := by
  unfold one
  split
  · exact Nat.xor_lt_two_pow (by omega) (by decide)
  · omega
theorem many_lt : ∀ (j : Nat) {c : Nat}, c < 2 ^ 32 → many j c < 2 ^ 32
  | 0, _, h => h
  | j + 1, _, h => many_lt j (one_lt h)
theorem byte_lt {c b : Nat} (h : c < 2 ^ 32) (hb : b < 256) : byte c b < 2 ^ 32 :=
  many_lt 8 (Nat.xor_lt_two_pow h (by omega))
theorem all_lt : ∀ (bs : List Nat) {c : Nat}, c < 2 ^ 32 → (∀ b ∈ bs, b < 256) → all c bs < 2 ^ 32
  | [], _, h, _ => h
  | b :: bs, _, h, hb => all_lt bs (byte_lt h (hb b (by simp))) (fun x hx => hb x (by simp [hx]))

theorem xor_nat (k : IntKind) (hj : 32 ≤ k.bits) (hk : ∀ n : Int, 0 ≤ n → n < 2 ^ 32 → k.wrap n = n) (a b : Nat) (ha : a < 2 ^ 32) (hb : b < 2 ^ 32) :
    Go.bits .xor k a b = ((a ^^^ b : Nat) : Int) := by
  have hp : 2 ^ 32 ≤ 2 ^ k.bits := Nat.pow_le_pow_right (by decide) hj
  have ha' : a % 2 ^ k.bits = a := Nat.mod_eq_of_lt (Nat.lt_of_lt_of_le ha hp)
  have hb' : b % 2 ^ k.bits = b := Nat.mod_eq_of_lt (Nat.lt_of_lt_of_le hb hp)
  simp only [Go.bits, BitVec.ofInt_natCast, BitVec.toNat_xor, BitVec.toNat_ofNat, ha', hb']
  exact hk _ (Int.natCast_nonneg _) (by exact_mod_cast Nat.xor_lt_two_pow ha hb)
theorem xor_i64 (a b : Nat) (ha : a < 2 ^ 32) (hb : b < 2 ^ 32) : Go.bits .xor .i64 a b = ((a ^^^ b : Nat) : Int) :=
  xor_nat .i64 (by decide) (fun n h0 h1 => by rw [IntKind.wrap_i64]; omega) a b ha hb
theorem xor_u32 (a b : Nat) (ha : a < 2 ^ 32) (hb : b < 2 ^ 32) : Go.bits .xor .u32 a b = ((a ^^^ b : Nat) : Int) :=
  xor_nat .u32 (by decide) (fun n h0 h1 => by rw [IntKind.wrap_u32]; omega) a b ha hb
theorem and_u32 (a : Nat) (ha : a < 2 ^ 32) : Go.bits .and .u32 a 1 = ((a % 2 : Nat) : Int) := by
  have h := bits_mask .u32 32 (by decide) (fun n h0 h1 => by rw [IntKind.wrap_u32]; omega) 1 (by decide) (a : Int) (by omega) (by omega)
  simpa using h

/-- The bits of one byte, on the reference's side. -/
theorem spec_bits (xs : List Int) (x4 : Int) (r : Int) : ∀ (j c : Nat) (i : Int), c < 2 ^ 32 → i + j = 8 → 0 ≤ i →
    Ev (fun k => spec_l03Sum.l0 k xs ((many j c : Nat) : Int) (wrap64 (x4 + 1))) r → Ev (fun k => spec_l03Sum.l1 k xs c x4 i) r := by
  intro j
  induction j with
  | zero =>
    intro c i hc hi h0 h
    refine Ev.step (fun k => ?_) h
    simp only [spec_l03Sum.l1]
    rw [if_neg (by omega)]
    rfl
  | succ j ih =>
    intro c i hc hi h0 h
    have hb : ((c / 2 : Nat) : Int) < 2 ^ 32 := by omega
    have hd : Int.tdiv (c : Int) 2 = ((c / 2 : Nat) : Int) := by
      rw [Int.tdiv_eq_ediv_of_nonneg (by omega)]
      rfl
    have hm : Int.tmod (c : Int) 2 = ((c % 2 : Nat) : Int) := by
      rw [Int.tmod_eq_emod_of_nonneg (by omega)]
      rfl
    have hw : wrap64 ((c / 2 : Nat) : Int) = ((c / 2 : Nat) : Int) := wrap_id (by omega) (by omega)
    have hi1 : wrap64 (i + 1) = i + 1 := wrap_id (by omega) (by omega)
    have hnext := ih (one c) (i + 1) (one_lt hc) (by omega) (by omega) h
    refine Ev.step (fun k => ?_) hnext
    simp only [spec_l03Sum.l1]
    rw [if_pos (by omega), hd, hm, hw, hi1]
    unfold one
    split
    · rename_i h1
      rw [if_pos (by omega)]
      congr 1
      exact xor_i64 _ 3988292384 (by omega) (by decide)
    · rename_i h1
      rw [if_neg (by omega)]

def fin (c : Nat) : Int := ((c ^^^ 4294967295 : Nat) : Int)
theorem fin_range {c : Nat} (h : c < 2 ^ 32) : 0 ≤ fin c ∧ fin c < 4294967296 := by
  have := Nat.xor_lt_two_pow h (show 4294967295 < 2 ^ 32 by decide)
  unfold fin
  omega

theorem drop_rd (xs : List Int) (i : Nat) (h : i < xs.length) : (xs.drop i).map Int.toNat = (rd xs (i : Int)).toNat :: (xs.drop (i + 1)).map Int.toNat := by
  rw [List.drop_eq_getElem_cons h, List.map_cons]
  congr 1
  simp [rd, List.getD_eq_getElem?_getD, List.getElem?_eq_getElem h]

/-- All bytes, on the reference's side. -/
theorem spec_bytes (xs : List Int) (hx : ∀ x ∈ xs, 0 ≤ x ∧ x < 256) (hn : xs.length < 140737488355328) : ∀ (d i c : Nat), c < 2 ^ 32 → i + d = xs.length →
    Ev (fun k => spec_l03Sum.l0 k xs (c : Int) (i : Int)) (fin (all c ((xs.drop i).map Int.toNat))) := by
  intro d
  induction d with
  | zero =>
    intro i c hc hi
    refine Ev.step (f := fun _ => some (fin c)) (fun k => ?_) ?_
    · simp only [spec_l03Sum.l0]
      rw [if_neg (by omega)]
      exact congrArg some (xor_i64 c 4294967295 hc (by decide))
    · have : xs.drop i = [] := List.drop_eq_nil_of_le (by omega)
      rw [this]
      exact Ev.now _
  | succ d ih =>
    intro i c hc hi
    have hl : i < xs.length := by omega
    have hr : 0 ≤ rd xs (i : Int) ∧ rd xs (i : Int) < 256 := by
      have : rd xs (i : Int) ∈ xs := by
        simp [rd, List.getD_eq_getElem?_getD, List.getElem?_eq_getElem hl]
      exact hx _ this
    obtain ⟨b, hb⟩ : ∃ b : Nat, rd xs (i : Int) = (b : Int) := ⟨(rd xs (i : Int)).toNat, by omega⟩
    have hb256 : b < 256 := by omega
    have hx32 : c ^^^ b < 2 ^ 32 := Nat.xor_lt_two_pow hc (by omega)
    have h1 := spec_bits xs (i : Int) (fin (all c ((xs.drop i).map Int.toNat))) 8 (c ^^^ b) 0 hx32 (by omega) (by omega) (by
      rw [drop_rd xs i hl, hb]
      have hw : wrap64 ((i : Int) + 1) = ((i + 1 : Nat) : Int) := by
        rw [wrap_id (by omega) (by omega)]
        omega
      rw [hw]
      exact ih (i + 1) (byte c b) (byte_lt hc hb256) (by omega))
    refine Ev.step (fun k => ?_) h1
    simp only [spec_l03Sum.l0]
    rw [if_pos (by omega), if_pos (by omega), hb, wrap_id (by omega) (by omega), xor_i64 c b hc (by omega)]

theorem spec_sum (xs : List Int) (hx : ∀ x ∈ xs, 0 ≤ x ∧ x < 256) (hn : xs.length < 140737488355328) :
    Ev (fun k => spec_l03Sum.f k xs) (fin (all 4294967295 (xs.map Int.toNat))) := by
  have h := spec_bytes xs hx hn xs.length 0 4294967295 (by decide) (by omega)
  simp only [List.drop_zero] at h
  exact h

/-- The bits of one byte, on the program's side. -/
theorem impl_bits (s : ByteArray) (n x8 : Int) (r : Int) : ∀ (j c : Nat) (i : Int), c < 2 ^ 32 → i + j = 8 → 0 ≤ i →
    Ev (fun k => impl_sumOf.l0 k s ((many j c : Nat) : Int) n (wrap64 (x8 + 1))) r → Ev (fun k => impl_sumOf.l1 k s c n x8 i) r := by
  intro j
  induction j with
  | zero =>
    intro c i hc hi h0 h
    refine Ev.step (fun k => ?_) h
    simp only [impl_sumOf.l1]
    rw [if_neg (by omega)]
    rfl
  | succ j ih =>
    intro c i hc hi h0 h
    have hd : (c : Int) / 2 = ((c / 2 : Nat) : Int) := by omega
    have hi1 : wrap64 (i + 1) = i + 1 := wrap_id (by omega) (by omega)
    have hnext := ih (one c) (i + 1) (one_lt hc) (by omega) (by omega) h
    refine Ev.step (fun k => ?_) hnext
    simp only [impl_sumOf.l1]
    rw [if_pos (by omega), and_u32 c hc, hd, hi1]
    unfold one
    split
    · rename_i h1
      rw [if_pos (by omega)]
      congr 1
      exact xor_u32 _ 3988292384 (by omega) (by decide)
    · rename_i h1
      rw [if_neg (by omega)]

theorem byte_at (s : ByteArray) (i : Nat) (h : i < s.size) : ((bytesOf s).drop i).map Int.toNat = (bt s (i : Int)).toNat :: ((bytesOf s).drop (i + 1)).map Int.toNat := by
  rw [← rd_bytesOf]
  exact drop_rd _ i (by rw [bytesOf_length]; exact h)

theorem impl_bytes (s : ByteArray) (hn : s.size < 140737488355328) : ∀ (d i c : Nat), c < 2 ^ 32 → i + d = s.size →
    Ev (fun k => impl_sumOf.l0 k s (c : Int) (s.size : Int) (i : Int)) (fin (all c (((bytesOf s).drop i).map Int.toNat))) := by
  intro d
  induction d with
  | zero =>
    intro i c hc hi
    refine Ev.step (f := fun _ => some (fin c)) (fun k => ?_) ?_
    · simp only [impl_sumOf.l0]
      rw [if_neg (by omega)]
      have h := xor_u32 4294967295 c (by decide) hc
      rw [Nat.xor_comm] at h
      have hr := fin_range hc
      rw [show ((4294967295 : Nat) : Int) = 4294967295 from rfl] at h
      rw [h]
      exact congrArg some (wrap_id (by unfold fin at hr; omega) (by unfold fin at hr; omega))
    · have : (bytesOf s).drop i = [] := List.drop_eq_nil_of_le (by rw [bytesOf_length]; omega)
      rw [this]
      exact Ev.now _
  | succ d ih =>
    intro i c hc hi
    have hl : i < s.size := by omega
    have hr := bt_range s (i : Int)
    obtain ⟨b, hb⟩ : ∃ b : Nat, bt s (i : Int) = (b : Int) := ⟨(bt s (i : Int)).toNat, by omega⟩
    have hb256 : b < 256 := by omega
    have hx32 : c ^^^ b < 2 ^ 32 := Nat.xor_lt_two_pow hc (by omega)
    have h1 := impl_bits s (s.size : Int) (i : Int) (fin (all c (((bytesOf s).drop i).map Int.toNat))) 8 (c ^^^ b) 0 hx32 (by omega) (by omega) (by
      rw [byte_at s i hl, hb]
      have hw : wrap64 ((i : Int) + 1) = ((i + 1 : Nat) : Int) := by
        rw [wrap_id (by omega) (by omega)]
        omega
      rw [hw]
      exact ih (i + 1) (byte c b) (byte_lt hc hb256) (by omega))
    refine Ev.step (fun k => ?_) h1
    simp only [impl_sumOf.l0]
    rw [if_pos (by omega), if_pos (by omega), if_pos (by omega), hb, show (b : Int) % 4294967296 = (b : Int) by omega, xor_u32 c b hc (by omega)]

theorem impl_sum (s : ByteArray) (hn : s.size < 140737488355328) :
    Ev (fun k => impl_sumOf.f k s) (fin (all 4294967295 ((bytesOf s).map Int.toNat))) := by
  have h := impl_bytes s hn s.size 0 4294967295 (by decide) (by omega)
  simp only [List.drop_zero] at h
  exact h

/-! Texts and lists of bytes -/
theorem bytesOf_range (s : ByteArray) : ∀ x ∈ bytesOf s, 0 ≤ x ∧ x < 256 := by
  intro x hx
  unfold bytesOf at hx
  obtain ⟨b, _, rfl⟩ := List.mem_map.1 hx
  have := b.toNat_lt
  omega
theorem bytesOf_strOfNums (xs : List Int) (hx : ∀ x ∈ xs, 0 ≤ x ∧ x < 256) : bytesOf (strOfNums xs) = xs := by
  unfold bytesOf strOfNums
  simp only [List.map_map]
  refine (List.map_congr_left (g := id) fun x hm => ?_).trans (List.map_id _)
  have := hx x hm
  simp only [Function.comp, id, UInt8.toNat_ofNat']
  omega
theorem strOfNums_bytesOf (s : ByteArray) : strOfNums (bytesOf s) = s := by
  unfold bytesOf strOfNums
  simp only [List.map_map]
  have : List.map ((fun n : Int => UInt8.ofNat n.toNat) ∘ fun b : UInt8 => (b.toNat : Int)) s.data.toList = s.data.toList := by
    refine (List.map_congr_left (g := id) fun x hm => ?_).trans (List.map_id _)
    simp [Function.comp]
  rw [this]
theorem bytesOf_append (s t : ByteArray) : bytesOf (s ++ t) = bytesOf s ++ bytesOf t := by
  unfold bytesOf
  rw [ByteArray.data_append]
  simp
theorem strOfNums_append (xs ys : List Int) : strOfNums (xs ++ ys) = strOfNums xs ++ strOfNums ys := by
  apply ByteArray.ext
  rw [ByteArray.data_append]
  simp [strOfNums]
theorem strOfNums_size (xs : List Int) : (strOfNums xs).size = xs.length := by
  simp [strOfNums, ByteArray.size]

/-- The sum of a list of bytes. -/
def sum (xs : List Int) : Int := fin (all 4294967295 (xs.map Int.toNat))
theorem sum_range (xs : List Int) (hx : ∀ x ∈ xs, 0 ≤ x ∧ x < 256) : 0 ≤ sum xs ∧ sum xs < 4294967296 := by
  refine fin_range (all_lt _ (by decide) fun b hb => ?_)
  obtain ⟨x, hm, rfl⟩ := List.mem_map.1 hb
  have := hx x hm
  omega
end Go.Proofs.Ytmjbacnioncicaa.CrcF
