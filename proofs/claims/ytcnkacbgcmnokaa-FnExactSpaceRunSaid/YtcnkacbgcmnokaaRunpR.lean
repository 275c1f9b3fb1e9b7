/- The law of a run fits every total and all acts; plain lemmas. -/
import Derived.Test.YtcnkacbgcmnokaaRunv
import Derived.Test.YtcnkacbgcmnokaaPlainy
namespace Go.Proofs.Ytcnkacbgcmnokaa.RunpR
open Go Go.RowKit Go.Proofs.Ytcnkacbgcmnokaa.XR Go.Proofs.YtcnkacbgcmnokaaW.PrintWords Go.Proofs.YtcnkacbgcmnokaaW.PrintLast Go.Proofs.YtcnkacbgcmnokaaW.PrintMore Go.Proofs.Ytcnkacbgcmnokaa.Aid Go.Proofs.Ytcnkacbgcmnokaa.Loops Go.Proofs.Ytcnkacbgcmnokaa.MarkE Go.Proofs.Ytcnkacbgcmnokaa.MarkIR Go.Proofs.Ytcnkacbgcmnokaa.SpaR Go.Proofs.Ytcnkacbgcmnokaa.MarkSfR Go.Proofs.Ytcnkacbgcmnokaa.MarkSrR Go.Proofs.Ytcnkacbgcmnokaa.SameR
open Go.Proofs.Ytcnkacbgcmnokaa.XR.Act (Out)
open Go.Proofs.Ytcnkacbgcmnokaa.XR.Irun (steps run Res)
set_option linter.unusedVariables false
set_option linter.unusedSimpArgs false
/-! The acts -/
def conv (x : S27) : S37 := ⟨x.f0, x.f1⟩
theorem rd27 (xs : List S27) (i : Nat) (h : i < xs.length) : rd_T27 xs (i : Int) = xs[i] := by
  simp [rd_T27, List.getD_eq_getElem?_getD, List.getElem?_eq_getElem h]
theorem acts_size (xs : List S27) (hl : xs.length ≤ 9223372036854775807) : ∃ r, laws_szSpaceActS.f xs 1048576 = some r ∧ (0 ≤ r → xs.length ≤ 1048576) := by
  unfold laws_szSpaceActS.f
  rw [sz_text 1048576 xs.length (by omega) (by omega) (by omega) (by omega)]
  by_cases hn : 1048576 - (xs.length : Int) < 0
  · exact ⟨-1, if_pos hn, by omega⟩
  · exact ⟨_, if_neg hn, fun _ => by omega⟩
theorem acts_copy (xs : List S27) (hl : xs.length ≤ 1048576) : Ev (fun k => laws_toSpaceActS.f k xs) (xs.map conv) := by
  unfold laws_toSpaceActS.f
  refine Ev.congr (fun k => (if_pos (by omega)).trans (if_pos (by simp; omega))) ?_
  have h := copyE (fun k ys i => laws_toSpaceActS.l0 k xs ys i) xs conv (fun _ i => some ⟨(rd_T27 xs i).f0, (rd_T27 xs i).f1⟩) z37 (by omega) (fun i hi => by rw [rd27 xs i hi]; exact Ev.now _) (fun _ _ _ => rfl)
  simpa using h
theorem acts_same (xs : List S37) (hl : xs.length ≤ 1048576) : Ev (fun k => laws_eqSpaceActS.f k xs xs) true := by
  unfold laws_eqSpaceActS.f
  refine Ev.congr (fun k => if_pos rfl) ?_
  exact eqE (fun k i => laws_eqSpaceActS.l0 k xs xs i) xs.length xs.length (fun _ i => laws_eqSpaceAct.f (rd_T37 xs i).f0 (rd_T37 xs i).f1 (rd_T37 xs i).f0 (rd_T37 xs i).f1) (by omega) rfl (fun i _ => Ev.congr (fun _ => (if_pos rfl).trans (if_pos rfl)) (Ev.now _)) (fun _ _ => rfl)
def mkAct (a : Int) : S37 := ⟨a, a + 1⟩
theorem acts_mark (xs : List S37) (s : Int) (h0 : 0 ≤ s) (hc : s + 2 * xs.length ≤ 536870912) : Ev (fun k => laws_markSpaceActS.f k xs s) (s + 2 * xs.length, stone mkAct s 2 xs.length) := by
  unfold laws_markSpaceActS.f
  refine markE (fun k xs a i => laws_markSpaceActS.l0 k xs a i) xs.length s 2 mkAct h0 (by omega) hc (fun i ys a r hy hi ha hb hr => ?_) (fun ys a hy => ?_) xs rfl
  · have g : ∀ (y : S37), rd_T37 (ys.set i y) (i : Int) = y := fun y => by
      show (ys.set i y).getD (i : Int).toNat z37 = y
      rw [Int.toNat_natCast]
      exact set_get ys i y z37 (by omega)
    have e1 : wrap64 (a + 1) = a + 1 := wrap_id (by omega) (by omega)
    have e2 : wrap64 (a + 1 + 1) = a + 2 := by rw [wrap_id (by omega) (by omega)]; omega
    refine Ev.step (fun k => ?_) hr
    simp only [laws_markSpaceActS.l0, Option.bind_some]
    rw [if_pos (by omega), if_pos (by omega)]
    simp only [Int.toNat_natCast, List.set_set, g, e1, e2]
    rw [next_ (n := xs.length) hi (by omega)]
    rfl
  · exact Ev.step (f := fun _ => some (a, ys)) (fun k => by simp only [laws_markSpaceActS.l0]; rw [if_neg (by omega)]) (Ev.now _)
/-! The replies -/
theorem rd33 (xs : List S33) (i : Nat) (h : i < xs.length) : rd_T33 xs (i : Int) = xs[i] := by
  simp [rd_T33, List.getD_eq_getElem?_getD, List.getElem?_eq_getElem h]
theorem reply_same (c : Int) (l : List Int) (hl : l.length ≤ 1048576) : Ev (fun k => laws_eqSpaceReply.f k c l c l) true := by
  unfold laws_eqSpaceReply.f
  exact Ev.congr (fun k => if_pos rfl) (Ev.bind (SpaR.ints_same l hl) (Ev.congr (fun k => if_pos rfl) (Ev.now _)))
theorem replies_same (xs : List S33) (hl : xs.length ≤ 1048576) (hp : ∀ x ∈ xs, x.f1.length ≤ 64) : Ev (fun k => laws_eqSpaceReplyS.f k xs xs) true := by
  unfold laws_eqSpaceReplyS.f
  refine Ev.congr (fun k => if_pos rfl) ?_
  exact eqE (fun k i => laws_eqSpaceReplyS.l0 k xs xs i) xs.length xs.length (fun k i => laws_eqSpaceReply.f k (rd_T33 xs i).f0 (rd_T33 xs i).f1 (rd_T33 xs i).f0 (rd_T33 xs i).f1) (by omega) rfl (fun i hi => by rw [rd33 xs i hi]; exact reply_same _ _ (Nat.le_trans (hp _ (List.getElem_mem hi)) (by omega))) (fun _ _ => rfl)
theorem tot_le (rs : List S33) (hp : ∀ x ∈ rs, x.f1.length ≤ 64) (i : Nat) : MX.tot (MX.F rs) i ≤ 65 * i := by
  induction i with
  | zero => exact Nat.le_refl _
  | succ i ih =>
    have h : MX.F rs i ≤ 65 := by
      unfold MX.F
      rw [List.getD_eq_getElem?_getD]
      by_cases hi : i < rs.length
      · rw [List.getElem?_eq_getElem hi]
        have := hp _ (List.getElem_mem hi)
        simp only [Option.getD_some]
        omega
      · rw [List.getElem?_eq_none (by omega)]
        simp [z33]
    have : MX.tot (MX.F rs) (i + 1) = MX.tot (MX.F rs) i + MX.F rs i := rfl
    omega
theorem stone_ints (s : Int) (n : Nat) : stone (fun a => a) s 1 n = MX.ints s n := by
  unfold stone MX.ints
  simp
theorem replies_held (rs : List S33) (a : Int) (h0 : 0 ≤ a) (ha : a ≤ 1048576) (hl : rs.length ≤ 4096) (hp : ∀ x ∈ rs, x.f1.length ≤ 64) : Ev (fun k => laws_heldSpaceReplyS.f k (MX.mk a rs) a) (MX.at_ a rs rs.length) := by
  unfold laws_heldSpaceReplyS.f
  have key : ∀ (d i : Nat), i + d = rs.length → Ev (fun k => laws_heldSpaceReplyS.l0 k (MX.mk a rs) (MX.at_ a rs i) (i : Int)) (MX.at_ a rs rs.length) := by
    intro d
    induction d with
    | zero =>
      intro i hi
      have : i = rs.length := by omega
      subst this
      exact Ev.step (f := fun _ => some (MX.at_ a rs rs.length)) (fun k => by simp only [laws_heldSpaceReplyS.l0]; rw [MX.mk_len, if_neg (by omega)]) (Ev.now _)
    | succ d ih =>
      intro i hi
      have hin : i < rs.length := by omega
      have g : rd_T33 (MX.mk a rs) (i : Int) = MX.one (MX.at_ a rs i) (rs.getD i z33) := by
        rw [rd33 _ i (by rw [MX.mk_len]; exact hin)]
        simp [MX.mk]
      have hx : rs.getD i z33 ∈ rs := by rw [List.getD_eq_getElem?_getD, List.getElem?_eq_getElem hin]; exact List.getElem_mem hin
      have hn := hp _ hx
      have ht := tot_le rs hp i
      have hb : MX.at_ a rs i ≤ 2097152 := by unfold MX.at_; omega
      have hb0 : 0 ≤ MX.at_ a rs i := by unfold MX.at_; omega
      have hs : MX.at_ a rs (i + 1) = MX.at_ a rs i + 1 + ((rs.getD i z33).f1.length : Int) := by
        have : MX.tot (MX.F rs) (i + 1) = MX.tot (MX.F rs) i + (1 + (rs.getD i z33).f1.length) := rfl
        unfold MX.at_
        omega
      have e1 : wrap64 (MX.at_ a rs i + 1) = MX.at_ a rs i + 1 := wrap_id (by omega) (by omega)
      have e2 := ints_held (rs.getD i z33).f1.length (MX.at_ a rs i + 1) (by omega) (by omega)
      rw [stone_ints, show MX.at_ a rs i + 1 + 1 * ((rs.getD i z33).f1.length : Int) = MX.at_ a rs (i + 1) by rw [hs]; omega] at e2
      have e3 := ih (i + 1) (by omega)
      refine Ev.step (f := fun k => (laws_heldIntS.f k (MX.ints (MX.at_ a rs i + 1) (rs.getD i z33).f1.length) (MX.at_ a rs i + 1)).bind fun t => if t < 0 then some (-1) else laws_heldSpaceReplyS.l0 k (MX.mk a rs) t ((i + 1 : Nat) : Int)) (fun k => ?_) (Ev.bind e2 (Ev.congr (fun k => if_neg (by omega)) e3))
      simp only [laws_heldSpaceReplyS.l0]
      rw [MX.mk_len, if_pos (by omega), if_pos (by omega), g]
      simp only [MX.one]
      rw [if_pos trivial, e1, next_ (n := rs.length) hin (by omega)]
  have h := key rs.length 0 (by omega)
  have hz : MX.at_ a rs 0 = a := by simp [MX.at_, MX.tot]
  rw [hz] at h
  exact h
/-! The runs -/
theorem new_impl (t : Int) : impl_NewSpace.f t = if 1 ≤ t ∧ t ≤ 64 then some (t, 0, [], [], [], 0) else some (0, 0, [], [], [], 4) := by
  unfold impl_NewSpace.f impl_within.f
  by_cases h1 : t ≥ 1
  · rw [if_pos h1, Option.bind_some]
    by_cases h2 : t ≤ 64
    · rw [if_pos (by simpa using h2), if_pos ⟨h1, h2⟩]
    · rw [if_neg (by simpa using h2), if_neg (fun h => h2 h.2)]
  · rw [if_neg h1, Option.bind_some, if_neg (by decide), if_neg (fun h => h1 h.1)]
theorem new_spec (t : Int) : spec_NewSpace.f t = if 1 ≤ t ∧ t ≤ 64 then some (t, 0, [], [], [], 0) else some (0, 0, [], [], [], 4) := by
  unfold spec_NewSpace.f spec_l01In.f
  by_cases h1 : t ≥ 1
  · rw [if_pos h1, Option.bind_some]
    by_cases h2 : t ≤ 64
    · rw [if_pos (by simpa using h2), if_pos ⟨h1, h2⟩]
    · rw [if_neg (by simpa using h2), if_neg (fun h => h2 h.2)]
  · rw [if_neg h1, Option.bind_some, if_neg (by decide), if_neg (fun h => h1 h.1)]
theorem steps_both (T : Int) : ∀ (l : List S37) (o : Out), SpaR.Good T o.E o.now o.held o.pins → ∃ z : Out × List S33, Ev (fun k => steps (fun o a => Act.f k T o.E o.now o.held o.pins a.f0 a.f1) l o) z ∧ Ev (fun k => steps (fun o a => Sstp.f k T o.E o.now o.held o.pins a.f0 a.f1) l o) z ∧ SpaR.Good T z.1.E z.1.now z.1.held z.1.pins ∧ z.2.length = l.length ∧ ∀ x ∈ z.2, x.f1.length ≤ 64
  | [], o, g => ⟨(o, []), Ev.now _, Ev.now _, g, rfl, fun x hx => by cases hx⟩
  | a :: l, o, g => by
    obtain ⟨r, e1, e2, gr, hp⟩ := SameR.step g a.f0 a.f1
    obtain ⟨z, f1, f2, gz, hl, hq⟩ := steps_both T l r gr
    refine ⟨(z.1, ⟨r.code, r.pages⟩ :: z.2), Ev.bind e1 (Ev.bind f1 (Ev.now _)), Ev.bind e2 (Ev.bind f2 (Ev.now _)), gz, by simp [hl], fun x hx => ?_⟩
    rcases List.mem_cons.1 hx with h | h
    · subst h; exact hp
    · exact hq x h
theorem runs (total : Int) (l : List S37) : ∃ r : Res, Ev (fun k => run impl_NewSpace.f (fun T o a => Act.f k T o.E o.now o.held o.pins a.f0 a.f1) total l) r ∧ Ev (fun k => run spec_NewSpace.f (fun T o a => Sstp.f k T o.E o.now o.held o.pins a.f0 a.f1) total l) r ∧ (r.o.now.length ≤ 64 ∧ r.o.held.length ≤ 64 ∧ r.o.pins.length ≤ 64) ∧ r.rs.length ≤ 200 ∧ ∀ x ∈ r.rs, x.f1.length ≤ 64 := by
  unfold run
  by_cases c0 : (4096 : Int) < (l.length : Int)
  · exact ⟨_, Ev.congr (fun k => if_pos c0) (Ev.now _), Ev.congr (fun k => if_pos c0) (Ev.now _), by simp, by simp, by simp⟩
  by_cases c1 : 1 ≤ total ∧ total ≤ 64
  · by_cases c2 : (200 : Int) < (l.length : Int)
    · refine ⟨⟨0, ⟨0, [], [], [], 0, []⟩, [], 6⟩, Ev.congr (f := fun _ => some _) (fun k => ?_) (Ev.now _), Ev.congr (f := fun _ => some _) (fun k => ?_) (Ev.now _), by simp, by simp, by simp⟩
      · rw [if_neg c0, new_impl, if_pos c1, Option.bind_some, if_pos rfl, if_pos c2]
      · rw [if_neg c0, new_spec, if_pos c1, Option.bind_some, if_pos rfl, if_pos c2]
    · have g : SpaR.Good total (0 : Int) [] [] [] := ⟨c1.1, c1.2, by omega, by omega, by simp, by simp, by simp, by simp, by simp, by simp, by simp, by simp⟩
      obtain ⟨z, f1, f2, gz, hl, hq⟩ := steps_both total l ⟨0, [], [], [], 0, []⟩ g
      refine ⟨⟨total, z.1, z.2, 0⟩, Ev.congr (f := fun k => (steps (fun o a => Act.f k total o.E o.now o.held o.pins a.f0 a.f1) l ⟨0, [], [], [], 0, []⟩).bind fun z => some ⟨total, z.1, z.2, 0⟩) (fun k => ?_) (Ev.bind f1 (Ev.now _)), Ev.congr (f := fun k => (steps (fun o a => Sstp.f k total o.E o.now o.held o.pins a.f0 a.f1) l ⟨0, [], [], [], 0, []⟩).bind fun z => some ⟨total, z.1, z.2, 0⟩) (fun k => ?_) (Ev.bind f2 (Ev.now _)), ⟨len_now gz, len_held gz, Nat.le_trans gz.pinsFew (by omega)⟩, by rw [hl]; omega, hq⟩
      · rw [if_neg c0, new_impl, if_pos c1, Option.bind_some, if_pos rfl, if_neg c2]
      · rw [if_neg c0, new_spec, if_pos c1, Option.bind_some, if_pos rfl, if_neg c2]
  · refine ⟨⟨0, ⟨0, [], [], [], 0, []⟩, [], 4⟩, Ev.congr (f := fun _ => some _) (fun k => ?_) (Ev.now _), Ev.congr (f := fun _ => some _) (fun k => ?_) (Ev.now _), by simp, by simp, by simp⟩
    · rw [if_neg c0, new_impl, if_neg c1, Option.bind_some, if_neg (by simp)]
    · rw [if_neg c0, new_spec, if_neg c1, Option.bind_some, if_neg (by simp)]
end Go.Proofs.Ytcnkacbgcmnokaa.RunpR
