/- Pages and metas are read back from their sectors, and one byte changed is found, for all choices of at most 2^20 bytes each; no condition. -/
import Derived.Test.YtmjbacnioncicaaXOpenFnSectors
import Derived.Test.YtmjbacnioncicaaSectF
namespace Go.Proofs.Ytmjbacnioncicaa.fnSectors.Pure
set_option maxRecDepth 100000
open Go Go.RowKit Go.Proofs.Ytmjbacnioncicaa.XF Go.Proofs.YtmjbacnioncicaaW.PrintWords Go.Proofs.YtmjbacnioncicaaW.PrintLast Go.Proofs.YtmjbacnioncicaaW.PrintMore Go.Proofs.Ytmjbacnioncicaa.Opn
open Go.Proofs.Ytmjbacnioncicaa.Aid Go.Proofs.Ytmjbacnioncicaa.CrcF Go.Proofs.Ytmjbacnioncicaa.PageF Go.Proofs.Ytmjbacnioncicaa.SectF Go.Proofs.Ytmjbacnioncicaa.SrcF
set_option linter.unusedVariables false

/-! The drawn text -/
theorem next_big (l : List Int) (hl : ∀ x ∈ l, 0 ≤ x ∧ x < 256) (hn : l.length ≤ 140737488351232) (n a s m : Int) (n0 : 257 ≤ n) (n1 : n ≤ 5000) (h0 : 0 ≤ a) (hm : a ≤ m) (h1 : m ≤ 1000) (h2 : 0 ≤ s) (h3 : s < 2147483648) :
    ∃ r a' s', spec_l00Src_next.f l a s n = some (r, a', s') ∧ 0 ≤ r ∧ r < n ∧ 0 ≤ a' ∧ a' ≤ m + 3 ∧ 0 ≤ s' ∧ s' < 2147483648 := by
  unfold spec_l00Src_next.f
  obtain ⟨b, a1, s1, hb, b0, b1, p0, p1, q0, q1⟩ := byte_ok l hl hn a s m h0 hm (by omega) h2 h3
  obtain ⟨c, a2, s2, hc, c0, c1, t0, t1, u0, u1⟩ := byte_ok l hl hn a1 s1 (m + 1) p0 p1 (by omega) q0 q1
  obtain ⟨d, a3, s3, hd, d0, d1, v0, v1, w0, w1⟩ := byte_ok l hl hn a2 s2 (m + 1 + 1) t0 t1 (by omega) u0 u1
  rw [if_neg (by omega), if_neg (by omega), hb]
  simp only [Option.bind_some]
  rw [hc]
  simp only [Option.bind_some]
  rw [hd]
  simp only [Option.bind_some]
  rw [if_neg (by omega), wrap_id (x := b * 65536) (by omega) (by omega), wrap_id (x := c * 256) (by omega) (by omega), wrap_id (x := b * 65536 + c * 256) (by omega) (by omega), wrap_id (x := b * 65536 + c * 256 + d) (by omega) (by omega),
    Int.tmod_eq_emod_of_nonneg (show 0 ≤ b * 65536 + c * 256 + d by omega)]
  exact ⟨_, _, _, rfl, Int.emod_nonneg _ (by omega), Int.emod_lt_of_pos _ (by omega), v0, by omega, w0, w1⟩

theorem blob_loop (l : List Int) (hl : ∀ x ∈ l, 0 ≤ x ∧ x < 256) (hn : l.length ≤ 140737488351232) (n : Nat) (hN : n ≤ 400) : ∀ (d i : Nat) (ys : List Int) (a s : Int), i + d = n → ys.length = i → 0 ≤ a → a ≤ 10 + (i : Int) → 0 ≤ s → s < 2147483648 →
    ∃ r, Ev (fun k => spec_l00Src_blob.l0 k (n : Int) ys (i : Int) l a s) r ∧ r.1.size = n := by
  intro d
  induction d with
  | zero =>
    intro i ys a s hi hy h0 h1 h2 h3
    refine ⟨(strOfNums ys, a, s), Ev.step (f := fun _ => some (strOfNums ys, a, s)) (fun k => ?_) (Ev.now _), ?_⟩
    · simp only [spec_l00Src_blob.l0]
      rw [if_neg (by omega)]
    · show (strOfNums ys).size = n
      rw [strOfNums_size]
      omega
  | succ d ih =>
    intro i ys a s hi hy h0 h1 h2 h3
    obtain ⟨b, a', s', hb, b0, b1, p0, p1, q0, q1⟩ := next_ok l hl hn 4 a s (10 + (i : Int)) (by omega) (by omega) h0 h1 (by omega) h2 h3
    obtain ⟨r, hr, hs⟩ := ih (i + 1) (ys ++ [(wrap64 ((wrap64 (b * 60)) + (Int.tmod (i : Int) 7))) % 256]) a' s' (by omega) (by simp; omega) p0 (by omega) q0 q1
    refine ⟨r, Ev.step (fun k => ?_) hr, hs⟩
    simp only [spec_l00Src_blob.l0]
    rw [if_pos (by omega), hb]
    simp only [Option.bind_some]
    rw [if_pos (by omega), wrap_id (x := (i : Int) + 1) (by omega) (by omega)]
    rfl

theorem blob_ok (l : List Int) (hl : ∀ x ∈ l, 0 ≤ x ∧ x < 256) (hn : l.length ≤ 1048576) : ∃ d, Ev (fun k => spec_BlobOf.f k l) d ∧ d.size ≤ 400 := by
  obtain ⟨x, a1, s1, hx, x0, x1, p0, p1, q0, q1⟩ := next_ok l hl (by omega) 120 0 ((l.length : Int) % 1000) 0 (by omega) (by omega) (by omega) (by omega) (by omega) (by omega) (by omega)
  obtain ⟨y, a2, s2, hy, y0, y1, t0, t1, u0, u1⟩ := next_big l hl (by omega) 400 a1 s1 1 (by omega) (by omega) p0 (by omega) (by omega) q0 q1
  obtain ⟨z, a3, s3, hz, z0, z1, v0, v1, w0, w1⟩ := next_ok l hl (by omega) 7 a2 s2 4 (by omega) (by omega) t0 (by omega) (by omega) u0 u1
  have hc : 0 ≤ rd [0, 1, 26, 27, 28, x, y] z ∧ rd [0, 1, 26, 27, 28, x, y] z ≤ 400 := by
    have : z = 0 ∨ z = 1 ∨ z = 2 ∨ z = 3 ∨ z = 4 ∨ z = 5 ∨ z = 6 := by omega
    rcases this with rfl | rfl | rfl | rfl | rfl | rfl | rfl <;> simp [rd] <;> omega
  obtain ⟨n, hn'⟩ : ∃ n : Nat, rd [0, 1, 26, 27, 28, x, y] z = (n : Int) := ⟨(rd [0, 1, 26, 27, 28, x, y] z).toNat, by omega⟩
  obtain ⟨r, hr, hs⟩ := blob_loop l hl (by omega) n (by omega) n 0 [] a3 s3 (by omega) rfl v0 (by omega) w0 w1
  refine ⟨r.1, ?_, by omega⟩
  unfold spec_BlobOf.f spec_l00Source.f spec_l00Src_blob.f
  simp only [Option.bind_some, hx, hy, hz]
  refine Ev.bind (f := fun _ (t : ByteArray × Int × Int) => some t.1) (a := r) ?_ (Ev.now _)
  refine Ev.congr (fun _ => if_pos z0) (Ev.congr (fun _ => if_pos (show z < (([0, 1, 26, 27, 28, x, y] : List Int).length : Int) by simp; omega)) ?_)
  rw [hn']
  exact hr

/-! Bytes of a part of a text -/
theorem bytes_inj {s t : ByteArray} (h : bytesOf s = bytesOf t) : s = t := by rw [← strOfNums_bytesOf s, h, strOfNums_bytesOf]
theorem bytes_extract (s : ByteArray) (a b : Nat) : bytesOf (s.extract a b) = ((bytesOf s).take b).drop a := by
  unfold bytesOf
  rw [ByteArray.data_extract, Array.toList_extract, List.extract, ← List.map_take, ← List.map_drop, List.drop_take]
theorem B_bytes (s : ByteArray) : B (bytesOf s) := bytesOf_range s
theorem B_nums {s : ByteArray} {xs : List Int} (h : bytesOf s = xs) : B xs := h ▸ bytesOf_range s

/-! A page -/
theorem range_true (x l h : Int) (h0 : l ≤ x) (h1 : x ≤ h) : BytesF.within x l h = true := by
  unfold BytesF.within
  rw [if_pos h0]
  exact decide_eq_true h1
theorem range_true' (x l h : Int) (h0 : l ≤ x) (h1 : x ≤ h) : ReadF.within x l h = true := by
  unfold ReadF.within
  rw [if_pos h0]
  exact decide_eq_true h1
theorem write_page (p b e : Int) (s : ByteArray) (p0 : 2 ≤ p) (p1 : p ≤ 255) (hb : b = 0 ∨ (2 ≤ b ∧ b ≤ 255)) (e0 : 1 ≤ e) (e1 : e ≤ 60000) (hs : s.size ≤ 27) :
    Ev (fun k => impl_PageBytes.f k p b e s) (BytesF.page p b e s, 0) ∧ Ev (fun k => spec_PageBytes.f k p b e s) (BytesF.page p b e s, 0) := by
  have h1 := Ev.bind (f := fun _ t192 => some (t192, (0 : Int))) (BytesF.spec_page p b e s hs) (Ev.now _)
  have h2 := Ev.bind (f := fun _ t192 => some (t192, (0 : Int))) (BytesF.impl_page p b e s hs) (Ev.now _)
  have hl : ¬ 65536 < (s.size : Int) := by omega
  have hz : ¬ 27 < (s.size : Int) := by omega
  have wp := range_true p 2 255 p0 p1
  have we := range_true e 1 4294967295 e0 (by omega)
  unfold spec_PageBytes.f impl_PageBytes.f spec_l03Numbers.f impl_isPage.f impl_isEpoch.f
  simp only [BytesF.long_one, BytesF.within_impl, BytesF.within_spec, Option.bind_some, decide_eq_true_eq, gt_iff_lt, if_neg hl, if_neg hz, wp, we, if_true]
  rcases hb with rfl | ⟨b0, b1⟩
  · simp only [if_true]
    exact ⟨h2, h1⟩
  · have hn : ¬ b = 0 := by omega
    simp only [if_neg hn, range_true b 2 255 b0 b1, if_true]
    exact ⟨h2, h1⟩
theorem read_page (p e : Int) (s : ByteArray) (p0 : 2 ≤ p) (p1 : p ≤ 255) (e0 : 1 ≤ e) (e1 : e ≤ 60000) (hs : s.size = 32) : Ev (fun k => impl_ReadPage.f k p e s) (ReadF.body p e s) := by
  have hl : ¬ 65536 < (s.size : Int) := by omega
  unfold impl_ReadPage.f impl_isPage.f impl_isEpoch.f
  simp only [ReadF.long_one, ReadF.within_impl, Option.bind_some, decide_eq_true_eq, if_neg hl, range_true' p 2 255 p0 p1, range_true' e 1 4294967295 e0 (by omega), if_true, Bool.not_true]
  exact ReadF.impl_read p e s hs
theorem halves (s : ByteArray) (hs : s.size = 32) : bytesOf s = bytesOf (s.extract 0 28) ++ bytesOf (s.extract 28 s.size) := by
  have h32 : (bytesOf s).take 32 = bytesOf s := List.take_of_length_le (by rw [bytesOf_length]; omega)
  rw [bytes_extract, bytes_extract, hs, List.drop_zero, h32, List.take_append_drop]
theorem tells (p e : Int) (s : ByteArray) (hs : s.size = 32) : sum (pageOf p e (bytesOf (s.extract 0 28))) = told (s.extract 28 s.size) ↔ bytesOf s = bytesOf (s.extract 0 28) ++ four (sum (pageOf p e (bytesOf (s.extract 0 28)))) := by
  have hr := sum_range (pageOf p e (bytesOf (s.extract 0 28))) (pageOf_range p e _ (bytesOf_range _))
  have h4 := told_four (s.extract 28 s.size) (ReadF.tail_size s hs) _ hr.1 hr.2
  rw [← h4]
  constructor
  · intro h
    have hb : bytesOf (s.extract 28 s.size) = four (sum (pageOf p e (bytesOf (s.extract 0 28)))) := by rw [h, bytesOf_strOfNums _ (four_range _)]
    rw [← hb]
    exact halves s hs
  · intro h
    have h2 := (List.append_inj (h.symm.trans (halves s hs)) rfl).2
    exact bytes_inj (h2.symm.trans (bytesOf_strOfNums _ (four_range _)).symm)
theorem body_good (p e : Int) (s : ByteArray) (hs : s.size = 32) (F : List Int) (lF : F.length = 28) (h : bytesOf s = F ++ four (sum (pageOf p e F))) :
    ReadF.body p e s = (rd F 0, s.extract 1 28, 0) := by
  have hF : bytesOf (s.extract 0 28) = F := by
    rw [bytes_extract, h, List.drop_zero, List.take_append_of_le_length (by omega), List.take_of_length_le (by omega)]
  have hc := (tells p e s hs).2 (by rw [hF]; exact h)
  have hb := B_nums h
  have h0 : rd F 0 = bt s 0 := by
    have := rd_bytesOf s 0
    rw [h] at this
    rw [← this]
    match F, lF with
    | x :: xs, _ => rfl
  have hx := bt_range s 0
  unfold ReadF.body
  rw [if_pos hc, h0, wrap_id (by omega) (by omega)]
theorem body_bad (p e : Int) (s : ByteArray) (hs : s.size = 32) (h : ∀ G : List Int, G.length = 28 → B G → bytesOf s ≠ G ++ four (sum (pageOf p e G))) :
    ReadF.body p e s = (0, (⟨#[]⟩ : ByteArray), 8) := by
  unfold ReadF.body
  refine if_neg fun hc => ?_
  exact h _ (by rw [bytesOf_length, ReadF.head_size s hs]) (bytesOf_range _) ((tells p e s hs).1 hc)

/-! The byte that is changed -/
theorem turned_is (xs : List Int) (hB : B xs) (q b : Int) (q0 : 0 ≤ q) (hq : q < (xs.length : Int)) (hb : 0 ≤ b ∧ b < 255) :
    ∃ v, laws_FnSectors.turned xs q b = xs.set q.toNat v ∧ 0 ≤ v ∧ v < 256 ∧ v ≠ rd xs q ∧ B (xs.set q.toNat v) := by
  have hr : 0 ≤ rd xs q ∧ rd xs q < 256 := by
    have hi : q.toNat < xs.length := by omega
    have : rd xs q ∈ xs := by
      simp only [rd, List.getD_eq_getElem?_getD, List.getElem?_eq_getElem hi, Option.getD_some]
      exact List.getElem_mem _
    exact hB _ this
  obtain ⟨h0, h1, h2⟩ := turned_val (rd xs q) b hr hb
  exact ⟨_, rfl, h0, h1, h2, hB.set _ ⟨h0, h1⟩⟩

/-! A meta -/
theorem meta_ok (e f l : Int) (e0 : 1 ≤ e) (e1 : e ≤ 60000) (f0 : 2 ≤ f) (f1 : f ≤ 255) (l0 : 1 ≤ l) (l1 : l ≤ 3000) : MetaF.ok e f l = true := by
  unfold MetaF.ok
  exact decide_eq_true ⟨by omega, by omega, by omega, by omega, .inr ⟨by omega, f0, f1⟩⟩
theorem meta_bytes (e f l : Int) : bytesOf (MetaF.page e f l) = MetaF.front e f l ++ four (sum (MetaF.front e f l)) := by
  unfold MetaF.page
  rw [bytesOf_append, bytesOf_strOfNums _ (MetaF.front_range e f l), bytesOf_strOfNums _ (four_range _)]
theorem meta_size (e f l : Int) : (MetaF.page e f l).size = 32 := by
  have := bytesOf_length (MetaF.page e f l)
  rw [meta_bytes, List.length_append, MetaF.front_length, four_length] at this
  omega
theorem write_meta (e f l : Int) (h : MetaF.ok e f l = true) : Ev (fun k => impl_MetaBytes.f k e f l) (MetaF.page e f l, 0) := by
  unfold impl_MetaBytes.f
  refine Ev.bind (Ev.congr (fun _ => MetaF.impl_ok e f l) (Ev.now _)) ?_
  rw [h]
  simp only [if_true]
  exact Ev.bind (MetaF.impl_meta e f l) (Ev.now _)
theorem ans_good (e f l : Int) (hk : MetaF.ok e f l = true) (e0 : 1 ≤ e) (e1 : e ≤ 60000) (f0 : 2 ≤ f) (f1 : f ≤ 255) (l0 : 1 ≤ l) (l1 : l ≤ 3000) : RMetaF.ans (MetaF.page e f l) = (e, f, l, 0) := by
  have hm := meta_bytes e f l
  have hz := meta_size e f l
  have h4 : ((MetaF.page e f l).extract 2 6).size = 4 := by rw [ByteArray.size_extract]; omega
  have ht : told ((MetaF.page e f l).extract 2 6) = e := by
    have hb : bytesOf ((MetaF.page e f l).extract 2 6) = four e := by
      rw [bytes_extract, hm]
      rfl
    exact ((told_four _ h4 e (by omega) (by omega)).1 (bytes_inj (hb.trans (bytesOf_strOfNums _ (four_range _)).symm))).symm
  have h6 : bt (MetaF.page e f l) 6 = f := by
    rw [← rd_bytesOf, hm]
    show f % 256 = f
    omega
  have h7 : bt (MetaF.page e f l) 7 = l / 256 % 256 := by
    rw [← rd_bytesOf, hm]
    rfl
  have h8 : bt (MetaF.page e f l) 8 = l % 256 := by
    rw [← rd_bytesOf, hm]
    rfl
  have hr : RMetaF.rd7 (MetaF.page e f l) = l := by
    unfold RMetaF.rd7
    rw [h7, h8]
    omega
  unfold RMetaF.ans RMetaF.good
  rw [ht, h6, hr, hk]
  simp
theorem ans_bad (s : ByteArray) (h : ∀ G : List Int, G.length = 28 → B G → bytesOf s ≠ G ++ four (sum G)) : RMetaF.ans s = (0, 0, 0, 3) := by
  unfold RMetaF.ans
  refine if_neg fun hg => ?_
  unfold RMetaF.good at hg
  rw [Bool.and_eq_true, decide_eq_true_eq] at hg
  have hb := meta_bytes (told (s.extract 2 6)) (bt s 6) (RMetaF.rd7 s)
  rw [hg.2] at hb
  exact h _ (MetaF.front_length _ _ _) (MetaF.front_range _ _ _) hb

theorem FnSectors : Pure := by
  intro l0 l1 hw0 hw1
  refine Ev.rounds ?_
  unfold laws_FnSectors.f
  by_cases z0 : (l0.length : Int) > 1048576
  · exact Ev.congr (fun _ => if_pos z0) (Ev.now true)
  refine Ev.congr (fun _ => if_neg z0) ?_
  by_cases z1 : (l1.length : Int) > 1048576
  · exact Ev.congr (fun _ => if_pos z1) (Ev.now true)
  refine Ev.congr (fun _ => if_neg z1) ?_
  have u8 : ∀ x : Int, Wfu8 x → 0 ≤ x ∧ x < 256 := fun x h => by
    simp [Wfu8, Lit.wf, IntKind.min, IntKind.max, IntKind.signed, IntKind.bits] at h
    omega
  have b0 : B l0 := fun x hx => u8 x (hw0.2 x hx)
  have b1 : B l1 := fun x hx => u8 x (hw1.2 x hx)
  clear hw0 hw1 u8
  obtain ⟨p, hp, p0, p1⟩ := at_ok l0 b0 (by omega) 0 254 (by omega) (by omega) (by omega) (by omega)
  obtain ⟨e, he, e0, e1⟩ := at_ok l0 b0 (by omega) 1 5000 (by omega) (by omega) (by omega) (by omega)
  obtain ⟨n, hn, n0, n1⟩ := at_ok l0 b0 (by omega) 2 254 (by omega) (by omega) (by omega) (by omega)
  obtain ⟨j, hj, j0, j1⟩ := at_ok l0 b0 (by omega) 3 2 (by omega) (by omega) (by omega) (by omega)
  obtain ⟨q, hq, q0, q1⟩ := at_ok l1 b1 (by omega) 0 32 (by omega) (by omega) (by omega) (by omega)
  obtain ⟨b, hb, c0, c1⟩ := at_ok l1 b1 (by omega) 1 255 (by omega) (by omega) (by omega) (by omega)
  obtain ⟨m1, hm1, f0, f1⟩ := at_ok l1 b1 (by omega) 2 200 (by omega) (by omega) (by omega) (by omega)
  obtain ⟨m2, hm2, g0, g1⟩ := at_ok l1 b1 (by omega) 3 2999 (by omega) (by omega) (by omega) (by omega)
  obtain ⟨d, hd, hds⟩ := blob_ok l0 b0 (by omega)
  simp only [hp, he, hn, hj, hq, hb, hm1, hm2, Option.bind_some]
  obtain ⟨nx, hnx⟩ : ∃ nx : Int, nx = if j = 0 then 0 else 2 + n := ⟨_, rfl⟩
  have hnx2 : nx = 0 ∨ (2 ≤ nx ∧ nx ≤ 255) := by rw [hnx]; split <;> omega
  obtain ⟨dn, hdn⟩ : ∃ dn, dn = min d.size 27 := ⟨_, rfl⟩
  obtain ⟨dd, hdd⟩ : ∃ dd, dd = d.extract 0 dn := ⟨_, rfl⟩
  have zdd : dd.size = dn := by rw [hdd, ByteArray.size_extract]; omega
  obtain ⟨t, ht⟩ : ∃ t, t = BytesF.page (2 + p) nx (1 + e) dd := ⟨_, rfl⟩
  obtain ⟨F, hF⟩ : ∃ F, F = BytesF.front nx dd := ⟨_, rfl⟩
  have bF : B F := by rw [hF]; exact BytesF.front_range nx dd
  have lF : F.length = 28 := by rw [hF]; exact BytesF.front_length nx dd (by omega)
  have tb : bytesOf t = F ++ four (sum (pageOf (2 + p) (1 + e) F)) := by
    rw [ht]
    unfold BytesF.page
    rw [bytesOf_append, bytesOf_strOfNums _ (BytesF.front_range nx dd), bytesOf_strOfNums _ (four_range _), hF]
  have zt : t.size = 32 := by
    have := bytesOf_length t
    rw [tb, List.length_append, lF, four_length] at this
    omega
  obtain ⟨w1, w2⟩ := write_page (2 + p) nx (1 + e) dd (by omega) (by omega) hnx2 (by omega) (by omega) (by omega)
  rw [← ht] at w1 w2
  have r3 := read_page (2 + p) (1 + e) t (by omega) (by omega) (by omega) (by omega) zt
  rw [body_good (2 + p) (1 + e) t zt F lF tb] at r3
  -- the page's byte changed
  obtain ⟨v, hv, v0, v1, v2, v3⟩ := turned_is (bytesOf t) (bytesOf_range t) q b q0 (by rw [bytesOf_length]; omega) ⟨c0, c1⟩
  have y4 : bytesOf (strOfNums (laws_FnSectors.turned (bytesOf t) q b)) = (bytesOf t).set q.toNat v := by rw [hv, bytesOf_strOfNums _ v3]
  have z4 : (strOfNums (laws_FnSectors.turned (bytesOf t) q b)).size = 32 := by rw [strOfNums_size, hv, List.length_set, bytesOf_length, zt]
  have r4 := read_page (2 + p) (1 + e) _ (by omega) (by omega) (by omega) (by omega) z4
  have hpre : B ([(2 + p) % 256] ++ four (1 + e)) := B.app (fun x hx => by simp at hx; omega) (four_range _)
  rw [body_bad (2 + p) (1 + e) _ z4 (fun G lG bG hG => by
    rw [y4, tb] at hG
    have := oneoff ([(2 + p) % 256] ++ four (1 + e)) F G hpre bF bG lF lG q.toNat (by omega) v ⟨v0, v1⟩ hG
    rw [tb] at v2
    rw [show ((q.toNat : Nat) : Int) = q by omega] at this
    exact v2 this)] at r4
  -- the epoch's number raised
  have r5 := read_page (2 + p) (1 + e + 1) t (by omega) (by omega) (by omega) (by omega) zt
  rw [body_bad (2 + p) (1 + e + 1) t zt (fun G lG bG hG => by
    rw [tb] at hG
    obtain ⟨h1, h2⟩ := List.append_inj hG (by rw [lF, lG])
    rw [← h1] at h2
    have q1 := sum_range (pageOf (2 + p) (1 + e) F) (pageOf_range _ _ _ bF)
    have q2 := sum_range (pageOf (2 + p) (1 + e + 1) F) (pageOf_range _ _ _ bF)
    exact sum_epoch (2 + p) (1 + e) F bF (by omega) (by omega) (four_inj q1 q2 h2))] at r5
  -- the meta
  have hok := meta_ok (1 + e) (2 + m1) (1 + m2) (by omega) (by omega) (by omega) (by omega) (by omega) (by omega)
  have w6 := write_meta (1 + e) (2 + m1) (1 + m2) hok
  have zu := meta_size (1 + e) (2 + m1) (1 + m2)
  have ub := meta_bytes (1 + e) (2 + m1) (1 + m2)
  have r7 := RMetaF.impl_read (MetaF.page (1 + e) (2 + m1) (1 + m2)) zu
  rw [ans_good (1 + e) (2 + m1) (1 + m2) hok (by omega) (by omega) (by omega) (by omega) (by omega) (by omega)] at r7
  obtain ⟨u, hu⟩ : ∃ u, u = MetaF.page (1 + e) (2 + m1) (1 + m2) := ⟨_, rfl⟩
  rw [← hu] at w6 zu ub r7
  obtain ⟨v', hv', v0', v1', v2', v3'⟩ := turned_is (bytesOf u) (bytesOf_range u) q b q0 (by rw [bytesOf_length]; omega) ⟨c0, c1⟩
  have y8 : bytesOf (strOfNums (laws_FnSectors.turned (bytesOf u) q b)) = (bytesOf u).set q.toNat v' := by rw [hv', bytesOf_strOfNums _ v3']
  have z8 : (strOfNums (laws_FnSectors.turned (bytesOf u) q b)).size = 32 := by rw [strOfNums_size, hv', List.length_set, bytesOf_length, zu]
  have r8 := RMetaF.impl_read _ z8
  rw [ans_bad _ (fun G lG bG hG => by
    rw [y8, ub] at hG
    have := oneoff [] (MetaF.front (1 + e) (2 + m1) (1 + m2)) G (fun x hx => by simp at hx) (MetaF.front_range _ _ _) bG (MetaF.front_length _ _ _) lG q.toNat (by omega) v' ⟨v0', v1'⟩ hG
    rw [ub] at v2'
    rw [show ((q.toNat : Nat) : Int) = q by omega] at this
    exact v2' this)] at r8
  -- the sums
  have s1 : Ev (fun k => impl_PageSum.f k (bytesOf t)) (sum (bytesOf t)) := by
    unfold impl_PageSum.f
    refine Ev.congr (fun _ => if_neg (by rw [bytesOf_length]; omega)) ?_
    have h := impl_sum (strOfNums (bytesOf t)) (by rw [strOfNums_size, bytesOf_length]; omega)
    rw [bytesOf_strOfNums _ (bytesOf_range t)] at h
    exact Ev.bind h (Ev.now _)
  have s2 : Ev (fun k => spec_PageSum.f k (bytesOf t)) (sum (bytesOf t)) := by
    unfold spec_PageSum.f
    refine Ev.congr (fun _ => if_neg (by rw [bytesOf_length]; omega)) ?_
    exact Ev.bind (spec_sum (bytesOf t) (bytesOf_range t) (by rw [bytesOf_length]; omega)) (Ev.now _)
  -- what is read back
  have k0 : rd F 0 = nx := by
    rw [hF]
    show nx % 256 = nx
    omega
  have zb : (t.extract 1 28).size = 27 := by rw [ByteArray.size_extract]; omega
  have kb : (t.extract 1 28).extract 0 dn = dd := by
    refine bytes_inj ?_
    rw [bytes_extract, bytes_extract, tb, List.take_append_of_le_length (by omega), List.take_of_length_le (show F.length ≤ 28 by omega), List.drop_zero, hF]
    unfold BytesF.front
    have : (([nx % 256] ++ bytesOf dd ++ List.replicate (27 - dd.size) 0 : List Int)).drop 1 = bytesOf dd ++ List.replicate (27 - dd.size) 0 := rfl
    rw [this, List.take_append_of_le_length (by rw [bytesOf_length]; omega), List.take_of_length_le (by rw [bytesOf_length]; omega)]
  rw [k0] at r3
  refine Ev.bind hd ?_
  rw [← hdn, ← hdd, ← hnx]
  refine Ev.bind w1 (Ev.bind w2 (Ev.bind r3 (Ev.bind r4 (Ev.bind r5 (Ev.bind w6 (Ev.bind r7 (Ev.bind r8 (Ev.bind s1 (Ev.bind s2 ?_)))))))))
  refine Ev.congr (fun _ => if_pos ⟨⟨p0, p1, e0, e1, n0, n1, j0, j1, q0, q1, c0, c1, f0, f1, g0, g1⟩, zt, zu, rfl, rfl, rfl, rfl, by omega, ⟨by show dn ≤ (t.extract 1 28).size; omega, kb⟩, rfl, rfl, rfl, rfl, rfl, rfl⟩) (Ev.now _)

end Go.Proofs.Ytmjbacnioncicaa.fnSectors.Pure
