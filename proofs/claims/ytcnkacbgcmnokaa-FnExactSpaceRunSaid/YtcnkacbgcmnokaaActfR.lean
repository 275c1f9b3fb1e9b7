/- What the program's act comes to, all kinds of acts. -/
import Derived.Test.YtcnkacbgcmnokaaActsR
namespace Go.Proofs.Ytcnkacbgcmnokaa.XR.Act
open Go Go.RowKit Go.Proofs.YtcnkacbgcmnokaaW.PrintWords Go.Proofs.YtcnkacbgcmnokaaW.PrintLast Go.Proofs.YtcnkacbgcmnokaaW.PrintMore Go.Proofs.Ytcnkacbgcmnokaa.XR Go.Proofs.Ytcnkacbgcmnokaa.XR.Room
set_option linter.unusedVariables false
set_option linter.unusedSimpArgs false
/-- What an act leaves: the epoch, the pages of now, those that are held, the pins; what it hands back. -/
structure Out where
  E : Int
  now : List Int
  held : List S74
  pins : List Int
  code : Int
  pages : List Int
open Classical in
noncomputable def f (k : Nat) (T E : Int) (now : List Int) (held : List S74) (pins : List Int) (kind n : Int) : Option Out :=
  if kind = 1 then (impl_Space_free.f k T E now held pins).bind fun fr => (impl_within.f n 0 64).bind fun ok =>
    if ok = true then (if n > (fr.length : Int) ∨ E ≥ 1000000 then some ⟨E, now, held, pins, 7, []⟩ else if 0 ≤ n ∧ now.length ≤ 1048576 ∧ held.length ≤ 1048576 ∧ fr.length ≤ 1048576 ∧ (∀ x ∈ held ++ now.map (pg E), 0 ≤ x.f0 ∧ x.f0 < 4294967296) ∧ (∀ x ∈ held ++ now.map (pg E), ∀ y ∈ held ++ now.map (pg E), x.f0 = y.f0 → x = y) then some ⟨wrap64 (E + 1), fr.take n.toNat, Rels.left (wrap64 (E + 1)) (Sorth.sorted (held ++ now.map (pg E))) pins, pins, 0, fr.take n.toNat⟩ else none) else some ⟨E, now, held, pins, 4, []⟩
  else if kind = 2 then (if 4 ≤ pins.length then some ⟨E, now, held, pins, 7, []⟩ else if now.length < 1099511627776 then some ⟨E, now, held, pins ++ [E], 0, now⟩ else none)
  else if kind = 3 then (if pins.length ≤ 1048576 then (impl_within.f n 0 ((pins.length : Int) - 1)).bind fun ok => if ok = true then (if 0 ≤ n ∧ n < (pins.length : Int) then some ⟨E, now, Rels.left E held (pins.eraseIdx n.toNat), pins.eraseIdx n.toNat, 0, []⟩ else none) else some ⟨E, now, held, pins, 5, []⟩ else none)
  else some ⟨E, now, held, pins, 3, []⟩
theorem calls (k b gb : Nat) (w : World) (T E : Int) (vn vh vp : Value) (now : List Int) (held : List S74) (pins : List Int) (kind n : Int) (r : Out) (hb : b ≤ w.heap.size) (o : Own b gb w T E vn vh vp now held pins) (h : f k T E now held pins kind n = some r) :
    Calls Try.prog 34 #[.pointer (some ⟨gb, 0, none⟩), .agg #[.int .i64 kind, .int .i64 n]] w (Done w b gb vn vh vp T r.E r.now r.held r.pins r.code r.pages) := by
  unfold f at h
  by_cases k1 : kind = 1
  · subst k1
    rw [if_pos rfl] at h
    obtain ⟨fr, hf, h⟩ := Option.bind_eq_some_iff.1 h
    obtain ⟨ok, hw, h⟩ := Option.bind_eq_some_iff.1 h
    cases ok with
    | false =>
      rw [if_neg (by decide)] at h
      obtain rfl := Option.some.inj h
      exact commitRange k b gb w T E vn vh vp now held pins n fr hb o hf hw
    | true =>
      rw [if_pos rfl] at h
      by_cases c : n > (fr.length : Int) ∨ E ≥ 1000000
      · rw [if_pos c] at h
        obtain rfl := Option.some.inj h
        exact commitFull k b gb w T E vn vh vp now held pins n fr hb o hf hw c
      · rw [if_neg c] at h
        obtain ⟨⟨h0, h5, h6, h7, hs, hd⟩, h⟩ := Option.ite_none_right_eq_some.1 h
        obtain rfl := Option.some.inj h
        obtain ⟨m, rfl⟩ : ∃ m : Nat, n = (m : Int) := ⟨n.toNat, by omega⟩
        rw [Int.toNat_natCast]
        exact commit k b gb w T E vn vh vp now held pins m fr hb o hf hw (by omega) (by omega) h5 h6 h7 hs hd
  rw [if_neg k1] at h
  by_cases k2 : kind = 2
  · subst k2
    rw [if_pos rfl] at h
    by_cases c : 4 ≤ pins.length
    · rw [if_pos c] at h
      obtain rfl := Option.some.inj h
      exact pinFull b gb w T E vn vh vp now held pins n hb o c
    · rw [if_neg c] at h
      obtain ⟨hl, h⟩ := Option.ite_none_right_eq_some.1 h
      obtain rfl := Option.some.inj h
      exact pin b gb w T E vn vh vp now held pins n hb o (by omega) hl
  rw [if_neg k2] at h
  by_cases k3 : kind = 3
  · subst k3
    rw [if_pos rfl] at h
    obtain ⟨hl, h⟩ := Option.ite_none_right_eq_some.1 h
    obtain ⟨ok, hw, h⟩ := Option.bind_eq_some_iff.1 h
    cases ok with
    | false =>
      rw [if_neg (by decide)] at h
      obtain rfl := Option.some.inj h
      exact unpinNone b gb w T E vn vh vp now held pins n hb o hl hw
    | true =>
      rw [if_pos rfl] at h
      obtain ⟨⟨h0, h1⟩, h⟩ := Option.ite_none_right_eq_some.1 h
      obtain rfl := Option.some.inj h
      obtain ⟨i, rfl⟩ : ∃ i : Nat, n = (i : Int) := ⟨n.toNat, by omega⟩
      rw [Int.toNat_natCast]
      exact unpin b gb w T E vn vh vp now held pins i hb o hl hw (by omega)
  rw [if_neg k3] at h
  obtain rfl := Option.some.inj h
  exact other b gb w T E vn vh vp now held pins kind n hb o k1 k2 k3
end Go.Proofs.Ytcnkacbgcmnokaa.XR.Act
