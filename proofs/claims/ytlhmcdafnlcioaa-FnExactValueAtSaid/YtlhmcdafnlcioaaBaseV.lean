/- Sizes, copies and likeness of bases, and the base's test on both sides; plain lemmas. -/
import Derived.Test.YtlhmcdafnlcioaaXV6
import Derived.Test.YtlhmcdafnlcioaaXV5
import Derived.Test.YtlhmcdafnlcioaaXV4
import Derived.Test.YtlhmcdafnlcioaaXV3
import Derived.Test.YtlhmcdafnlcioaaXV2
import Derived.Test.YtlhmcdafnlcioaaXVHBaseOK
import Derived.Test.YtlhmcdafnlcioaaXVHl07Tx
import Derived.Test.YtlhmcdafnlcioaaXVHtxOK
import Derived.Test.YtlhmcdafnlcioaaLoops
namespace Go.Proofs.Ytlhmcdafnlcioaa.BaseV
open Go Go.RowKit Go.Proofs.Ytlhmcdafnlcioaa.XV Go.Proofs.YtlhmcdafnlcioaaW.PrintWords Go.Proofs.YtlhmcdafnlcioaaW.PrintLast Go.Proofs.YtlhmcdafnlcioaaW.PrintMore Go.Proofs.Ytlhmcdafnlcioaa.Aid Go.Proofs.Ytlhmcdafnlcioaa.Loops Go.Proofs.Ytlhmcdafnlcioaa.Xtra
set_option linter.unusedVariables false

abbrev V0 := S174
abbrev V := S107
abbrev W0 := S222
abbrev W := S180
abbrev X0 := S178
abbrev X := S112
def convV (x : V0) : V := ⟨x.f0, x.f1, x.f2, x.f3⟩
def convW (x : W0) : W := ⟨x.f0, x.f1, x.f2⟩
def convX (x : X0) : X := ⟨x.f0, x.f1, x.f2.map convW⟩
theorem rdV0 (xs : List V0) (i : Nat) (h : i < xs.length) : rd_T174 xs (i : Int) = xs[i] := by
  simp [rd_T174, List.getD_eq_getElem?_getD, List.getElem?_eq_getElem h]
theorem rdV (xs : List V) (i : Nat) (h : i < xs.length) : rd_T107 xs (i : Int) = xs[i] := by
  simp [rd_T107, List.getD_eq_getElem?_getD, List.getElem?_eq_getElem h]
theorem rdW0 (xs : List W0) (i : Nat) (h : i < xs.length) : rd_T222 xs (i : Int) = xs[i] := by
  simp [rd_T222, List.getD_eq_getElem?_getD, List.getElem?_eq_getElem h]
theorem rdX0 (xs : List X0) (i : Nat) (h : i < xs.length) : rd_T178 xs (i : Int) = xs[i] := by
  simp [rd_T178, List.getD_eq_getElem?_getD, List.getElem?_eq_getElem h]
theorem rdX (xs : List X) (i : Nat) (h : i < xs.length) : rd_T112 xs (i : Int) = xs[i] := by
  simp [rd_T112, List.getD_eq_getElem?_getD, List.getElem?_eq_getElem h]

/-- Sizes, and what a budget that is not spent says of every element. -/
theorem szE2 (F : Nat → Int → Int → Option Int) (n : Nat) (g : Nat → Int → Int → Option Int) (M : Int) (P : Nat → Prop) (hn : n ≤ 140737488355328)
    (hg : ∀ i, i < n → ∀ a : Int, 0 ≤ a → a ≤ M → ∃ r, Ev (fun k => g k a (i : Int)) r ∧ r ≤ a ∧ (0 ≤ r → P i))
    (hF : ∀ k a i, F (k + 1) a i = if i < (n : Int) then (if 0 ≤ i then ((g k a i).bind fun t => if t < 0 then some (-1) else F k t (wrap64 (i + 1))) else none) else some a) :
    ∀ a : Int, 0 ≤ a → a ≤ M → ∃ r, Ev (fun k => F k a 0) r ∧ r ≤ a ∧ (0 ≤ r → ∀ i, i < n → P i) := by
  have key : ∀ (d i : Nat) (a : Int), i + d = n → 0 ≤ a → a ≤ M → ∃ r, Ev (fun k => F k a (i : Int)) r ∧ r ≤ a ∧ (0 ≤ r → ∀ j, i ≤ j → j < n → P j) := by
    intro d
    induction d with
    | zero =>
      intro i a hi h0 h1
      refine ⟨a, Ev.step (f := fun _ => some a) (fun k => ?_) (Ev.now _), Int.le_refl _, fun _ j h h' => absurd h' (by omega)⟩
      rw [hF, if_neg (by omega)]
    | succ d ih =>
      intro i a hi h0 h1
      obtain ⟨t, ht, hta, hp⟩ := hg i (by omega) a h0 h1
      by_cases hneg : t < 0
      · refine ⟨-1, Ev.step (f := fun k => (g k a (i : Int)).bind fun t => if t < 0 then some (-1) else F k t (wrap64 ((i : Int) + 1))) (fun k => ?_) (Ev.bind ht (Ev.congr (fun k => if_pos hneg) (Ev.now _))), by omega, by omega⟩
        rw [hF, if_pos (by omega), if_pos (by omega)]
      · obtain ⟨r, hr, hra, hrp⟩ := ih (i + 1) t (by omega) (by omega) (by omega)
        refine ⟨r, Ev.step (f := fun k => (g k a (i : Int)).bind fun t => if t < 0 then some (-1) else F k t (wrap64 ((i : Int) + 1))) (fun k => ?_) (Ev.bind ht (Ev.congr (fun k => if_neg hneg) ?_)), by omega, fun h j hj hj' => ?_⟩
        · rw [hF, if_pos (by omega), if_pos (by omega)]
        · rw [next_ (n := n) (by omega) hn]
          exact hr
        · by_cases e : j = i
          · subst e
            exact hp (by omega)
          · exact hrp h j (by omega) hj'
  intro a h0 h1
  obtain ⟨r, h, h', h''⟩ := key n 0 a (by omega) h0 h1
  exact ⟨r, h, h', fun h j hj => h'' h j (Nat.zero_le _) hj⟩
theorem two_texts (s t : ByteArray) (hs : s.size ≤ 9223372036854775807) (ht : t.size ≤ 9223372036854775807) (a : Int) (h0 : 0 ≤ a) (h1 : a ≤ 1048576) :
    ∃ r, (if wrap64 (a - (s.size : Int)) < 0 then some (-1) else if wrap64 (wrap64 (a - (s.size : Int)) - (t.size : Int)) < 0 then some (-1) else some (wrap64 (wrap64 (a - (s.size : Int)) - (t.size : Int)))) = some r ∧ r ≤ a := by
  rw [sz_text a s.size h0 h1 (by omega) (by omega)]
  by_cases hn : a - (s.size : Int) < 0
  · exact ⟨-1, if_pos hn, by omega⟩
  · rw [sz_text (a - (s.size : Int)) t.size (by omega) (by omega) (by omega) (by omega), if_neg hn]
    by_cases hn' : a - (s.size : Int) - (t.size : Int) < 0
    · exact ⟨-1, if_pos hn', by omega⟩
    · exact ⟨_, if_neg hn', by omega⟩
theorem versions_size (xs : List V0) (hl : xs.length ≤ 9223372036854775807) (hw : ∀ x ∈ xs, x.f0.size ≤ 9223372036854775807 ∧ x.f3.size ≤ 9223372036854775807) (a : Int) (h0 : 0 ≤ a) (h1 : a ≤ 1048576) :
    ∃ r, Ev (fun k => laws_szVersionS.f k xs a) r ∧ r ≤ a ∧ (0 ≤ r → xs.length ≤ 1048576) :=
  szL xs.length hl _ (fun k a => laws_szVersionS.l0 k xs a 0) (fun hs => szE (fun k a i => laws_szVersionS.l0 k xs a i) xs.length (fun _ a i => laws_szVersion.f (rd_T174 xs i).f0 (rd_T174 xs i).f1 (rd_T174 xs i).f2 (rd_T174 xs i).f3 a) 1048576 (by omega)
    (fun i hi a h0 h1 => by
      have h := hw xs[i] (List.getElem_mem hi)
      rw [rdV0 xs i hi]
      obtain ⟨r, e, hr⟩ := two_texts xs[i].f0 xs[i].f3 h.1 h.2 a h0 h1
      exact ⟨r, Ev.congr (fun _ => e) (Ev.now _), hr⟩) (fun _ _ _ => rfl)) (fun _ _ => rfl) a h0 h1
theorem writes_size (xs : List W0) (hl : xs.length ≤ 9223372036854775807) (hw : ∀ x ∈ xs, x.f0.size ≤ 9223372036854775807 ∧ x.f1.size ≤ 9223372036854775807) (a : Int) (h0 : 0 ≤ a) (h1 : a ≤ 1048576) :
    ∃ r, Ev (fun k => laws_szWriteS.f k xs a) r ∧ r ≤ a ∧ (0 ≤ r → xs.length ≤ 1048576) :=
  szL xs.length hl _ (fun k a => laws_szWriteS.l0 k xs a 0) (fun hs => szE (fun k a i => laws_szWriteS.l0 k xs a i) xs.length (fun _ a i => laws_szWrite.f (rd_T222 xs i).f0 (rd_T222 xs i).f1 (rd_T222 xs i).f2 a) 1048576 (by omega)
    (fun i hi a h0 h1 => by
      have h := hw xs[i] (List.getElem_mem hi)
      rw [rdW0 xs i hi]
      obtain ⟨r, e, hr⟩ := two_texts xs[i].f0 xs[i].f1 h.1 h.2 a h0 h1
      exact ⟨r, Ev.congr (fun _ => e) (Ev.now _), hr⟩) (fun _ _ _ => rfl)) (fun _ _ => rfl) a h0 h1
/-- What is known of transactions that came in. -/
def FitX (x : X0) : Prop := x.f2.length ≤ 9223372036854775807 ∧ ∀ y ∈ x.f2, y.f0.size ≤ 9223372036854775807 ∧ y.f1.size ≤ 9223372036854775807
theorem txs_size (xs : List X0) (hl : xs.length ≤ 9223372036854775807) (hw : ∀ x ∈ xs, FitX x) (a : Int) (h0 : 0 ≤ a) (h1 : a ≤ 1048576) :
    ∃ r, Ev (fun k => laws_szTxS.f k xs a) r ∧ r ≤ a ∧ (0 ≤ r → xs.length ≤ 1048576 ∧ ∀ x ∈ xs, x.f2.length ≤ 1048576) := by
  have hlen := sz_text a xs.length h0 h1 (by omega) (by omega)
  by_cases hneg : a - (xs.length : Int) < 0
  · exact ⟨-1, Ev.congr (fun k => by unfold laws_szTxS.f; rw [hlen, if_pos hneg]) (Ev.now _), by omega, by omega⟩
  obtain ⟨r, hr, hra, hrp⟩ := szE2 (fun k a i => laws_szTxS.l0 k xs a i) xs.length (fun k a i => laws_szTx.f k (rd_T178 xs i).f0 (rd_T178 xs i).f1 (rd_T178 xs i).f2 a) 1048576 (fun i => (xs.getD i z178).f2.length ≤ 1048576) (by omega)
    (fun i hi a h0 h1 => by
      have h := hw xs[i] (List.getElem_mem hi)
      have hg : xs.getD i z178 = xs[i] := by simp [List.getD_eq_getElem?_getD, List.getElem?_eq_getElem hi]
      rw [rdX0 xs i hi, hg]
      obtain ⟨r, h1, h2, h3⟩ := writes_size xs[i].f2 h.1 h.2 a h0 h1
      unfold laws_szTx.f
      by_cases hn : r < 0
      · exact ⟨-1, Ev.bind h1 (Ev.congr (fun _ => if_pos hn) (Ev.now _)), by omega, by omega⟩
      · exact ⟨r, Ev.bind h1 (Ev.congr (fun _ => if_neg hn) (Ev.now _)), h2, h3⟩) (fun _ _ _ => rfl) (a - (xs.length : Int)) (by omega) (by omega)
  refine ⟨r, Ev.congr (fun k => by unfold laws_szTxS.f; rw [hlen, if_neg hneg]) hr, by omega, fun h => ⟨by omega, fun x hx => ?_⟩⟩
  obtain ⟨i, hi, rfl⟩ := List.getElem_of_mem hx
  have := hrp h i hi
  simpa [List.getD_eq_getElem?_getD, List.getElem?_eq_getElem hi] using this
theorem base_size (t : Int) (l : List V0) (m : List X0) (hl : l.length ≤ 9223372036854775807) (hw : ∀ x ∈ l, x.f0.size ≤ 9223372036854775807 ∧ x.f3.size ≤ 9223372036854775807) (hm : m.length ≤ 9223372036854775807) (hx : ∀ x ∈ m, FitX x) :
    ∃ r, Ev (fun k => laws_szBase.f k t l m 1048576) r ∧ (0 ≤ r → l.length ≤ 1048576 ∧ m.length ≤ 1048576 ∧ ∀ x ∈ m, x.f2.length ≤ 1048576) := by
  unfold laws_szBase.f
  obtain ⟨r, hr, hra, hrl⟩ := versions_size l hl hw 1048576 (by omega) (by omega)
  by_cases hn : r < 0
  · exact ⟨-1, Ev.bind hr (Ev.congr (fun _ => if_pos hn) (Ev.now _)), by omega⟩
  obtain ⟨s, hs, hsa, hsl⟩ := txs_size m hm hx r (by omega) (by omega)
  by_cases hn' : s < 0
  · exact ⟨-1, Ev.bind hr (Ev.congr (fun _ => if_neg hn) (Ev.bind hs (Ev.congr (fun _ => if_pos hn') (Ev.now _)))), by omega⟩
  · exact ⟨s, Ev.bind hr (Ev.congr (fun _ => if_neg hn) (Ev.bind hs (Ev.congr (fun _ => if_neg hn') (Ev.now _)))), fun _ => ⟨hrl (by omega), hsl (by omega)⟩⟩

/-! Copies, likeness -/
theorem versions_copy (xs : List V0) (hl : xs.length ≤ 1048576) : Ev (fun k => laws_toVersionS.f k xs) (xs.map convV) := by
  have h := copyE (fun k ys i => laws_toVersionS.l0 k xs ys i) xs convV (fun _ i => some (convV (rd_T174 xs i))) z107 (by omega) (fun i hi => by rw [rdV0 xs i hi]; exact Ev.now _) (fun _ _ _ => rfl)
  refine Ev.congr (fun k => ?_) h
  unfold laws_toVersionS.f
  rw [if_pos (by omega), if_pos (by omega), Int.toNat_natCast]
theorem writes_copy (xs : List W0) (hl : xs.length ≤ 1048576) : Ev (fun k => laws_toWriteS.f k xs) (xs.map convW) := by
  have h := copyE (fun k ys i => laws_toWriteS.l0 k xs ys i) xs convW (fun _ i => some (convW (rd_T222 xs i))) z180 (by omega) (fun i hi => by rw [rdW0 xs i hi]; exact Ev.now _) (fun _ _ _ => rfl)
  refine Ev.congr (fun k => ?_) h
  unfold laws_toWriteS.f
  rw [if_pos (by omega), if_pos (by omega), Int.toNat_natCast]
theorem txs_copy (xs : List X0) (hl : xs.length ≤ 1048576) (hx : ∀ x ∈ xs, x.f2.length ≤ 1048576) : Ev (fun k => laws_toTxS.f k xs) (xs.map convX) := by
  have h := copyE (fun k ys i => laws_toTxS.l0 k xs ys i) xs convX (fun k i => (laws_toTx.f k (rd_T178 xs i).f0 (rd_T178 xs i).f1 (rd_T178 xs i).f2).bind fun b => some ⟨b.1, b.2.1, b.2.2⟩) z112 (by omega)
    (fun i hi => by
      rw [rdX0 xs i hi]
      unfold laws_toTx.f
      exact Ev.bind (Ev.bind (writes_copy xs[i].f2 (hx _ (List.getElem_mem hi))) (Ev.now _)) (Ev.now _))
    (fun k ys i => by
      simp only [laws_toTxS.l0]
      cases laws_toTx.f k (rd_T178 xs i).f0 (rd_T178 xs i).f1 (rd_T178 xs i).f2 <;> rfl)
  refine Ev.congr (fun k => ?_) h
  unfold laws_toTxS.f
  rw [if_pos (by omega), if_pos (by omega), Int.toNat_natCast]
theorem base_copy (t : Int) (l : List V0) (m : List X0) (hl : l.length ≤ 1048576) (hm : m.length ≤ 1048576) (hx : ∀ x ∈ m, x.f2.length ≤ 1048576) : Ev (fun k => laws_toBase.f k t l m) (t, l.map convV, m.map convX) := by
  unfold laws_toBase.f
  exact Ev.bind (versions_copy l hl) (Ev.bind (txs_copy m hm hx) (Ev.now _))
theorem writes_same (xs : List W) (hl : xs.length ≤ 1048576) : Ev (fun k => laws_eqWriteS.f k xs xs) true := by
  unfold laws_eqWriteS.f
  refine Ev.congr (fun k => if_pos rfl) ?_
  exact eqE (fun k i => laws_eqWriteS.l0 k xs xs i) xs.length (xs.length : Int) (fun _ i => laws_eqWrite.f (rd_T180 xs i).f0 (rd_T180 xs i).f1 (rd_T180 xs i).f2 (rd_T180 xs i).f0 (rd_T180 xs i).f1 (rd_T180 xs i).f2) (by omega) rfl
    (fun i _ => by unfold laws_eqWrite.f; exact Ev.congr (fun _ => by rw [if_pos rfl, if_pos rfl, if_neg (by simp)]) (Ev.now _)) (fun _ _ => rfl)
theorem base_same (t : Int) (l : List V) (m : List X) (hl : l.length ≤ 1048576) (hm : m.length ≤ 1048576) (hx : ∀ x ∈ m, x.f2.length ≤ 1048576) : Ev (fun k => laws_eqBase.f k t l m t l m) true := by
  unfold laws_eqBase.f
  refine Ev.congr (fun _ => if_pos rfl) (Ev.bind (a := true) ?_ (Ev.congr (fun _ => if_pos rfl) (Ev.bind (a := true) ?_ (Ev.congr (fun _ => if_pos rfl) (Ev.now _)))))
  · unfold laws_eqVersionS.f
    refine Ev.congr (fun k => if_pos rfl) ?_
    exact eqE (fun k i => laws_eqVersionS.l0 k l l i) l.length (l.length : Int) (fun _ i => laws_eqVersion.f (rd_T107 l i).f0 (rd_T107 l i).f1 (rd_T107 l i).f2 (rd_T107 l i).f3 (rd_T107 l i).f0 (rd_T107 l i).f1 (rd_T107 l i).f2 (rd_T107 l i).f3) (by omega) rfl
      (fun i _ => by unfold laws_eqVersion.f; exact Ev.congr (fun _ => by rw [if_pos rfl, if_pos rfl, if_pos rfl, if_pos rfl]) (Ev.now _)) (fun _ _ => rfl)
  · unfold laws_eqTxS.f
    refine Ev.congr (fun k => if_pos rfl) ?_
    exact eqE (fun k i => laws_eqTxS.l0 k m m i) m.length (m.length : Int) (fun k i => laws_eqTx.f k (rd_T112 m i).f0 (rd_T112 m i).f1 (rd_T112 m i).f2 (rd_T112 m i).f0 (rd_T112 m i).f1 (rd_T112 m i).f2) (by omega) rfl
      (fun i hi => by
        rw [rdX m i hi]
        unfold laws_eqTx.f
        refine Ev.congr (fun _ => by rw [if_neg (by simp), if_pos rfl]) ?_
        exact Ev.bind (writes_same _ (hx _ (List.getElem_mem hi))) (Ev.congr (fun _ => if_pos rfl) (Ev.now _))) (fun _ _ => rfl)

/-! The test -/
def within (x l h : Int) : Bool := if x ≥ l then decide (x ≤ h) else false
theorem within_true (x l h : Int) : within x l h = true ↔ l ≤ x ∧ x ≤ h := by
  unfold within
  split <;> simp <;> omega
theorem in_spec (x l h : Int) : spec_l01In.f x l h = some (within x l h) := by
  unfold spec_l01In.f within
  split <;> rfl
theorem in_impl (x l h : Int) : impl_within.f x l h = some (within x l h) := by
  unfold impl_within.f within
  split <;> rfl
theorem win_is (x l h : Int) : impl_Base_txOK.win x l h = within x l h := by
  unfold impl_Base_txOK.win
  rw [in_impl]
  rfl
def key (s : ByteArray) : Bool := within (s.size : Int) 1 80
theorem key_spec (s : ByteArray) : spec_l07Key.f s = some (key s) := by
  unfold spec_l07Key.f key within
  split <;> rfl
theorem key_is (s : ByteArray) : impl_Base_txOK.key s = key s := by
  unfold impl_Base_txOK.key impl_isKey.f key
  rw [in_impl]
  rfl
theorem dat_is (s : ByteArray) : impl_Base_txOK.dat s = decide ((s.size : Int) ≤ 200) := rfl
theorem dat_not (s : ByteArray) : (!decide ((200 : Int) < (s.size : Int))) = decide ((s.size : Int) ≤ 200) := by
  rw [Bool.eq_iff_iff]
  simp
theorem tx_same (t : Int) (op : Bool) (sn : Int) (l : List W) : spec_l07Tx.f op sn l t = impl_Base_txOK.f t op sn l := by
  unfold spec_l07Tx.f impl_Base_txOK.f
  cases op with
  | false => rfl
  | true =>
    simp only [if_true]
    have hw : (List.range l.length).all (spec_l07Tx.wr l) = (List.range l.length).all (impl_Base_txOK.wr l) := by
      congr 1
      funext i
      unfold spec_l07Tx.wr impl_Base_txOK.wr
      rw [key_is, dat_is, dat_not]
      unfold spec_l07Tx.key
      rw [key_spec]
      rfl
    have hi : spec_l07Tx.in_ sn 0 t = impl_Base_txOK.win sn 0 t := by
      rw [win_is]
      unfold spec_l07Tx.in_
      rw [in_spec]
      rfl
    have h8 : (!decide ((8 : Int) < (l.length : Int))) = decide ((l.length : Int) ≤ 8) := by
      rw [Bool.eq_iff_iff]
      simp
    rw [hw, hi, h8]
    cases impl_Base_txOK.win sn 0 t <;> cases decide ((l.length : Int) ≤ 8) <;> cases (List.range l.length).all (impl_Base_txOK.wr l) <;> rfl
def ok (t : Int) (l : List V) (m : List X) : Bool := within t 0 2000 && decide ((l.length : Int) ≤ 4096) && ((m.length : Int) == 4) && !m.any (impl_BaseOK.p t) && (List.range l.length).all (impl_BaseOK.at_ t l)
theorem ok_impl (t : Int) (l : List V) (m : List X) : impl_BaseOK.f t l m = some (ok t l m) := by
  unfold impl_BaseOK.f ok
  rw [win_is]
theorem tx_value (t : Int) (x : X) : spec_l07Tx.f x.f0 x.f1 x.f2 t = some (!impl_BaseOK.p t x) := by
  rw [tx_same]
  exact impl_BaseOK.p_some t x
/-- The four transactions. -/
theorem txs_ev (t : Int) (l : List V) (m : List X) (hm : m.length = 4) : Ev (fun k => spec_BaseOK.l1 k 0 t l m) (!m.any (impl_BaseOK.p t)) := by
  have h := allE (fun k i => spec_BaseOK.l1 k i t l m) m.length (fun i => !impl_BaseOK.p t (m.getD i z112)) true (fun _ i => some (!impl_BaseOK.p t (rd_T112 m i))) (fun _ _ => some true) (by omega)
    (fun i hi => Ev.now _) (Ev.now _) (fun k i => by
      simp only [spec_BaseOK.l1]
      rw [hm]
      by_cases h1 : i < 4
      · by_cases h2 : 0 ≤ i
        · rw [if_pos h1, if_pos h2, if_pos (show i < ((4 : Nat) : Int) by omega), if_pos (show i < ((4 : Nat) : Int) by omega), if_pos h2, tx_value]
        · rw [if_pos h1, if_neg h2, if_pos (show i < ((4 : Nat) : Int) by omega), if_neg h2]
      · rw [if_neg h1, if_neg (show ¬ i < ((4 : Nat) : Int) by omega)])
  rw [Bool.and_true, range_all m (fun x => !impl_BaseOK.p t x) z112] at h
  rw [List.not_any_eq_all_not]
  exact h
theorem behind_is (v y : V) : impl_BaseOK.behind v y = !(if Op.bytesLess v.f0.toList y.f0.toList = true then true else if y.f0.toList = v.f0.toList then (if y.f2 = 0 then true else decide (y.f2 > v.f1)) else false) := by
  unfold impl_BaseOK.behind
  by_cases h1 : Op.bytesLess v.f0.toList y.f0.toList = true
  · rw [if_pos h1, less_asymm _ _ h1]
    have : (y.f0.toList == v.f0.toList) = false := by
      rw [beq_eq_false_iff_ne]
      intro e
      rw [e, less_irrefl] at h1
      cases h1
    rw [this]
    rfl
  · rw [if_neg h1]
    by_cases h2 : y.f0.toList = v.f0.toList
    · rw [if_pos h2, h2, less_irrefl]
      by_cases h3 : y.f2 = 0
      · simp [h3]
      · rw [if_neg h3]
        have e : (y.f2 != 0) = true := by simp [h3]
        rw [e, Bool.eq_iff_iff]
        simp
    · rw [if_neg h2]
      have h1' : Op.bytesLess v.f0.toList y.f0.toList = false := by simpa using h1
      rw [less_total _ _ h1' (fun e => h2 e.symm)]
      rfl
theorem version_round (t : Int) (l : List V) (m : List X) (hl : l.length ≤ 4096) (ht : t ≤ 2000) (i : Nat) (hi : i < l.length) (r : Bool) (hr : Ev (fun k => spec_BaseOK.l0 k ((i + 1 : Nat) : Int) t l m) r) :
    Ev (fun k => spec_BaseOK.l0 k (i : Int) t l m) (impl_BaseOK.at_ t l i && r) := by
  unfold impl_BaseOK.at_
  rw [rdV l i hi]
  generalize hxe : l[i] = x
  have hnx : wrap64 ((i : Int) + 1) = ((i + 1 : Nat) : Int) := next_ (n := l.length) hi (by omega)
  have fin2 : ∀ a b c d, Ev (fun k => spec_BaseOK.j2 k (i : Int) true t l m a b c d) false := fun a b c d => Ev.step (f := fun _ => some false) (fun k => by simp only [spec_BaseOK.j2, if_true]) (Ev.now _)
  have go2 : Ev (fun k => spec_BaseOK.j2 k (i : Int) false t l m x.f0 x.f1 x.f2 x.f3) ((decide (i = 0) || impl_BaseOK.behind x (rd_T107 l ((i : Int) - 1))) && r) := by
    by_cases h0 : i = 0
    · rw [decide_eq_true h0, Bool.true_or, Bool.true_and]
      refine Ev.step (fun k => ?_) hr
      simp only [spec_BaseOK.j2, Bool.false_eq_true, if_false]
      rw [if_pos (by omega), hnx]
    · rw [decide_eq_false h0, Bool.false_or, behind_is]
      have hp : wrap64 ((i : Int) - 1) = (i : Int) - 1 := wrap_id (by omega) (by omega)
      have body : ∀ k, spec_BaseOK.j2 (k + 1) (i : Int) false t l m x.f0 x.f1 x.f2 x.f3 = if Op.bytesLess x.f0.toList (rd_T107 l ((i : Int) - 1)).f0.toList = true then some false else if (rd_T107 l ((i : Int) - 1)).f0.toList = x.f0.toList then (if (rd_T107 l ((i : Int) - 1)).f2 = 0 then some false else if (rd_T107 l ((i : Int) - 1)).f2 > x.f1 then some false else spec_BaseOK.l0 k ((i + 1 : Nat) : Int) t l m) else spec_BaseOK.l0 k ((i + 1 : Nat) : Int) t l m := by
        intro k
        simp only [spec_BaseOK.j2, Bool.false_eq_true, if_false]
        rw [if_neg (by omega), hp, if_pos (by omega), if_pos (by omega), hnx]
      refine Ev.step body ?_
      by_cases c1 : Op.bytesLess x.f0.toList (rd_T107 l ((i : Int) - 1)).f0.toList = true
      · rw [if_pos c1]
        exact Ev.congr (fun _ => if_pos c1) (Ev.now _)
      · rw [if_neg c1]
        refine Ev.congr (fun _ => if_neg c1) ?_
        by_cases c2 : (rd_T107 l ((i : Int) - 1)).f0.toList = x.f0.toList
        · rw [if_pos c2]
          refine Ev.congr (fun _ => if_pos c2) ?_
          by_cases c3 : (rd_T107 l ((i : Int) - 1)).f2 = 0
          · rw [if_pos c3]
            exact Ev.congr (fun _ => if_pos c3) (Ev.now _)
          · rw [if_neg c3]
            refine Ev.congr (fun _ => if_neg c3) ?_
            by_cases c4 : (rd_T107 l ((i : Int) - 1)).f2 > x.f1
            · rw [decide_eq_true c4]
              exact Ev.congr (fun _ => if_pos c4) (Ev.now _)
            · rw [decide_eq_false c4]
              exact Ev.congr (fun _ => if_neg c4) (by simpa using hr)
        · rw [if_neg c2]
          exact Ev.congr (fun _ => if_neg c2) (by simpa using hr)
  have own_is : impl_BaseOK.own t x = (key x.f0 && decide ((x.f3.size : Int) ≤ 200) && within x.f1 1 t && ((x.f2 == 0) || within x.f2 (x.f1 + 1) t)) := by
    unfold impl_BaseOK.own
    rw [key_is, dat_is, win_is, win_is]
  have j2 : ∀ b : Bool, b = !impl_BaseOK.own t x → Ev (fun k => spec_BaseOK.j2 k (i : Int) b t l m x.f0 x.f1 x.f2 x.f3) ((impl_BaseOK.own t x && (decide (i = 0) || impl_BaseOK.behind x (rd_T107 l ((i : Int) - 1)))) && r) := by
    intro b hb
    subst hb
    cases impl_BaseOK.own t x with
    | false => exact fin2 _ _ _ _
    | true => simpa using go2
  refine Ev.step (fun k => ?_) (j2 _ rfl)
  simp only [spec_BaseOK.l0]
  rw [if_pos (by omega), if_pos (by omega), rdV l i hi, hxe]
  simp only [key_spec, in_spec, Option.bind_some]
  rw [own_is]
  have d200 : decide ((x.f3.size : Int) > 200) = !decide ((x.f3.size : Int) ≤ 200) := by
    rw [Bool.eq_iff_iff]
    simp
  cases hk : key x.f0 with
  | false => simp
  | true =>
    cases hw : within x.f1 1 t with
    | false => simp
    | true =>
      rw [within_true] at hw
      have e1 : wrap64 (x.f1 + 1) = x.f1 + 1 := wrap_id (by omega) (by omega)
      simp only [if_true, e1, d200]
      by_cases h2 : x.f2 = 0
      · rw [if_pos h2, h2]
        simp
      · rw [if_neg h2]
        have : (x.f2 == 0) = false := by simp [h2]
        rw [this]
        cases within x.f2 (x.f1 + 1) t <;> simp
theorem ok_spec (t : Int) (l : List V) (m : List X) (hl : l.length ≤ 1048576) (hm : m.length ≤ 1048576) : Ev (fun k => spec_BaseOK.f k t l m) (ok t l m) := by
  unfold spec_BaseOK.f ok
  simp only [in_spec, Option.bind_some]
  have fin : Ev (fun k => spec_BaseOK.j0 k true t l m) false := Ev.step (f := fun _ => some false) (fun k => by simp only [spec_BaseOK.j0, if_true]) (Ev.now _)
  cases hw : within t 0 2000 with
  | false =>
    simp only [Bool.false_and, Bool.false_eq_true, if_false]
    exact fin
  | true =>
    simp only [if_true, Bool.true_and]
    rw [within_true] at hw
    by_cases h4 : (l.length : Int) > 4096
    · rw [decide_eq_false (by omega), Bool.false_and, Bool.false_and, Bool.false_and]
      exact Ev.congr (fun _ => if_pos h4) fin
    · rw [decide_eq_true (by omega), Bool.true_and]
      refine Ev.congr (fun _ => if_neg h4) ?_
      by_cases hm4 : (m.length : Int) = 4
      · have e1 : ((m.length : Int) != 4) = false := by simp [hm4]
        have e2 : ((m.length : Int) == 4) = true := by simp [hm4]
        rw [e1, e2, Bool.true_and, Bool.and_comm]
        refine Ev.step (f := fun k => spec_BaseOK.l0 k 0 t l m) (fun k => by simp only [spec_BaseOK.j0, Bool.false_eq_true, if_false]) ?_
        have keyL : ∀ (d i : Nat), i + d = l.length → Ev (fun k => spec_BaseOK.l0 k (i : Int) t l m) (((List.range l.length).drop i).all (impl_BaseOK.at_ t l) && !m.any (impl_BaseOK.p t)) := by
          intro d
          induction d with
          | zero =>
            intro i hi
            rw [List.drop_eq_nil_of_le (by simp; omega), List.all_nil, Bool.true_and]
            refine Ev.step (fun k => ?_) (txs_ev t l m (by omega))
            simp only [spec_BaseOK.l0]
            rw [if_neg (by omega)]
          | succ d ih =>
            intro i hi
            rw [List.drop_eq_getElem_cons (by simp; omega), List.all_cons, List.getElem_range, Bool.and_assoc]
            exact version_round t l m (by omega) hw.2 i (by omega) _ (ih (i + 1) (by omega))
        simpa using keyL l.length 0 (by omega)
      · have e1 : ((m.length : Int) != 4) = true := by simp [hm4]
        have e2 : ((m.length : Int) == 4) = false := by simp [hm4]
        rw [e1, e2, Bool.false_and, Bool.false_and]
        exact fin
end Go.Proofs.Ytlhmcdafnlcioaa.BaseV
