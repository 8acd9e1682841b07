/- LH5: what is drawn; the law of the chords that are found. In plain Lean, no program in sight. -/
import Derived.Test.YtmocokkjfgfkbabDoorLH4
import Derived.Lib.ItoaMem
namespace Go.G
open Go Go.J
theorem Odd_specH (L : List Int) {p a b : Int} (hp : 0 ≤ p) (hp' : p ≤ 999999000) (ha : -1000000000 ≤ a) (hab : a ≤ b) (hb : b ≤ 1000000000) :
    ∃ v q, m_gleemake_Stream_Odd L p a b = some (v, q) ∧ p ≤ q ∧ q ≤ p + 2 := by
  unfold m_gleemake_Stream_Odd
  obtain ⟨f, hf⟩ := Flip_spec L (n := 12) hp (by omega) (by omega)
  rw [hf, Option.bind_some]
  cases f with
  | true =>
    obtain ⟨v, h1, h2⟩ := Pick_spec L (p := p + 1) [w64 (a - 1), w64 (b + 1), a, b, -1099511627776, 1099511627776] (by omega) (by omega) (by simp) (by simp)
    rw [ifB_true, h1, Option.bind_some]
    exact ⟨v, p + 2, by simp [Int.add_assoc], by omega, by omega⟩
  | false =>
    obtain ⟨v, h1, h2, h3⟩ := Range_spec L (p := p + 1) (a := a) (b := b) (by omega) (by omega) (by omega) hab (by omega)
    rw [ifB_false, h1, Option.bind_some]
    exact ⟨v, p + 2, by simp [Int.add_assoc], by omega, by omega⟩
theorem Notes_specL (L : List Int) {q : Int} (hq : 0 ≤ q) (hq' : q ≤ 999000000) : ∃ n q', m_gleemake_Stream_Notes L q = some (n, q') ∧ q ≤ q' ∧ q' ≤ q + 100 ∧ n.length ≤ 5 := by
  unfold m_gleemake_Stream_Notes
  obtain ⟨r, h1, h2, h3⟩ := Range_spec L (p := q) (a := 0) (b := 11) hq (by omega) (by omega) (by omega) (by omega)
  obtain ⟨k, h4, h5, h6⟩ := Range_spec L (p := q + 1) (a := 1) (b := 7) (by omega) (by omega) (by omega) (by omega) (by omega)
  obtain ⟨T, -, h7, h8, -⟩ := tones_spec (r := r.toNat) (k := k.toNat) (t := 0) (by omega) (by omega) (by omega)
  rw [show ((r.toNat : Nat) : Int) = r by omega, show ((k.toNat : Nat) : Int) = k by omega] at h7
  have h7 : m_gleeref2_TonesOf ⟨r, k, 0⟩ = some T := h7
  rw [h1, Option.bind_some, h4, Option.bind_some]
  simp only
  rw [h7, Option.bind_some]
  obtain ⟨s, g1, p, out, rfl, g2, g3, g4⟩ := rangeM_invx (m_gleemake_Stream_Notes_l1 L) T (fun i s => ∃ (p : Int) (out : List Int), s = (p, out) ∧ q + 2 ≤ p ∧ p ≤ q + 2 + 2 * i ∧ out.length ≤ i) (by
    rintro i x s hx ⟨p, out, rfl, g2, g3, g4⟩
    have hi := (List.getElem?_eq_some_iff.1 hx).1
    unfold m_gleemake_Stream_Notes_l1
    simp only
    obtain ⟨f, hf⟩ := Flip_spec L (p := p) (n := 12) (by omega) (by omega) (by omega)
    rw [hf, Option.bind_some]
    simp only
    cases f with
    | true => exact ⟨_, rfl, p + 1, out, rfl, by omega, by omega, by omega⟩
    | false =>
      obtain ⟨v, hv, -⟩ := Range_spec L (p := p + 1) (a := 0) (b := 3) (by omega) (by omega) (by omega) (by omega) (by omega)
      rw [Bool.not_false, ifB_true, hv, Option.bind_some, appM_of (by simp; omega) (by omega)]
      exact ⟨_, rfl, p + 1 + 1, _, rfl, by omega, by omega, by simp; omega⟩) (q + 1 + 1, []) ⟨_, _, rfl, by omega, by omega, by simp⟩
  rw [g1, Option.bind_some, fin_brk]
  simp only
  obtain ⟨f, hf⟩ := Flip_spec L (p := p) (n := 4) (by omega) (by omega) (by omega)
  rw [hf, Option.bind_some]
  simp only
  obtain ⟨u, hu, hul⟩ : ∃ u : List Int, (ifB f ((appM 8 out [w64 (24 + r)]).bind fun q27 => some (.inl q27)) (some (.inl out)) : Option ((List Int) ⊕ ((List Int) × Int))) = some (.inl u) ∧ u.length ≤ 5 := by
    cases f with
    | true => exact ⟨_, by rw [ifB_true, appM_of (by simp; omega) (by omega)]; rfl, by simp; omega⟩
    | false => exact ⟨_, rfl, by omega⟩
  rw [hu, Option.bind_some, fin_inl]
  by_cases hgt : (u.length : Int) > 0
  · obtain ⟨f2, hf2⟩ := Flip_spec L (p := p + 1) (n := 10) (by omega) (by omega) (by omega)
    rw [decide_eq_true hgt, ifB_true, hf2, Option.bind_some, Option.bind_some, fin_inl]
    simp only
    cases f2 with
    | true =>
      obtain ⟨i, hi, hi0, hi1⟩ := Next_spec L (p := p + 1 + 1) (n := u.length) (by omega) (by omega) (by omega)
      have hi1 := hi1 (by omega)
      obtain ⟨v, q2, hv, e1, e2⟩ := Odd_specH L (p := p + 1 + 1 + 1) (a := 0) (b := 127) (by omega) (by omega) (by omega) (by omega) (by omega)
      have hit : i.toNat < u.length := by omega
      rw [ifB_true, hi, Option.bind_some]
      simp only
      rw [hv, Option.bind_some, getI_of (n := i.toNat) (by omega) (List.getElem?_eq_getElem hit), Option.bind_some]
      exact ⟨_, _, rfl, by simp only; omega, by simp only; omega, by simp only [List.length_set]; omega⟩
    | false => exact ⟨_, _, rfl, by omega, by omega, hul⟩
  · rw [decide_eq_false hgt, ifB_false, Option.bind_some, fin_inl]
    exact ⟨_, _, rfl, by simp only; omega, by simp only; omega, hul⟩
theorem AChord_spec (L : List Int) {q : Int} (hq : 0 ≤ q) (hq' : q ≤ 999000000) : ∃ c q', m_gleemake_Stream_AChord L q = some (c, q') ∧ q ≤ q' ∧ q' ≤ q + 10 := by
  unfold m_gleemake_Stream_AChord
  obtain ⟨f, hf⟩ := Flip_spec L (p := q) (n := 40) hq (by omega) (by omega)
  rw [hf, Option.bind_some]
  simp only
  cases f with
  | true =>
    obtain ⟨a, q1, h1, h2, h3⟩ := Odd_specH L (p := q + 1) (a := 0) (b := 11) (by omega) (by omega) (by omega) (by omega) (by omega)
    obtain ⟨b, q2, h4, h5, h6⟩ := Odd_specH L (p := q1) (a := 1) (b := 7) (by omega) (by omega) (by omega) (by omega) (by omega)
    obtain ⟨c, q3, h7, h8, h9⟩ := Odd_specH L (p := q2) (a := 0) (b := 3) (by omega) (by omega) (by omega) (by omega) (by omega)
    rw [ifB_true, h1, Option.bind_some]
    simp only
    rw [h4, Option.bind_some]
    simp only
    rw [h7, Option.bind_some]
    exact ⟨_, _, rfl, by simp only; omega, by simp only; omega⟩
  | false =>
    obtain ⟨a, h1, -⟩ := Range_spec L (p := q + 1) (a := 0) (b := 11) (by omega) (by omega) (by omega) (by omega) (by omega)
    obtain ⟨b, h2, -⟩ := Range_spec L (p := q + 1 + 1) (a := 1) (b := 7) (by omega) (by omega) (by omega) (by omega) (by omega)
    obtain ⟨c, h3, -⟩ := Pick_spec L (p := q + 1 + 1 + 1) [0, 0, 0, 1, 2] (by omega) (by omega) (by simp) (by simp)
    rw [ifB_false, h1, Option.bind_some]
    simp only
    rw [h2, Option.bind_some]
    simp only
    rw [h3, Option.bind_some]
    exact ⟨_, _, rfl, by simp only; omega, by simp only; omega⟩
theorem errs2 (a b : Int) : m_gleelaw2_errs [a, b] = some (if a = 0 then b else a) := by
  unfold m_gleelaw2_errs
  rw [rangeM_cons]
  unfold m_gleelaw2_errs_l1
  by_cases h : a = 0
  · rw [if_pos h, show (a != 0) = false by simpa using h, ifB_false, Option.bind_some, run_nxt, rangeM_cons]
    by_cases h2 : b = 0
    · rw [show (b != 0) = false by simpa using h2, h2]; rfl
    · rw [show (b != 0) = true by simpa using h2]; rfl
  · rw [if_neg h, show (a != 0) = true by simpa using h]; rfl
theorem sounded_true : m_gleelaw2_sounded = some true := by
  have hI : m_strconv_Itoa 1 = some (ByteArray.mk [49].toArray) := by
    unfold m_strconv_Itoa
    rw [if_pos (by omega)]
    have : Lib.itoa 1 = [49] := by
      have := Lib.itoa_nonneg 1
      rw [Lib.decDigits_one (by omega)] at this
      exact this
    rw [this]
  have hc : m_chord_CheckChord ⟨1, 2, 1⟩ = some 0 := by kernel_rfl
  have hN : m_chord_Name ⟨1, 2, 1⟩ = some (ByteArray.mk [99, 35, 32, 109, 105, 110, 47, 49].toArray, 0) := by
    unfold m_chord_Name
    rw [hc]
    simp only [Option.bind_some]
    rw [hI]
    rfl
  unfold m_gleelaw2_sounded
  rw [hN]
  simp
end Go.G
