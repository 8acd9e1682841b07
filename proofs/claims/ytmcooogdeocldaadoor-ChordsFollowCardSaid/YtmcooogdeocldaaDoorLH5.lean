/- LH5: what is drawn; the law of the chords that are found. In plain Lean, no program in sight. -/
import Derived.Test.YtmcooogdeocldaaDoorLH4
import Derived.Lib.ItoaMem
namespace Go.G
open Go Go.J
theorem Odd_specH (L : List Int) {p a b : Int} (hp : 0 ≤ p) (hp' : p ≤ 999999000) (ha : -1000000000 ≤ a) (hab : a ≤ b) (hb : b ≤ 1000000000) :
    ∃ v q, m_gleemake_Stream_Odd L p a b = some (v, q) ∧ p ≤ q ∧ q ≤ p + 2 := by
  unfold m_gleemake_Stream_Odd
  obtain ⟨f, hf⟩ := Flip_spec L (n := 12) hp (by omega) (by omega)
  rw [hf, Option.bind_some]
  cases f with
  | true =>
    obtain ⟨v, h1, h2⟩ := Pick_spec L (p := p + 1) [w64 (a - 1), w64 (b + 1), a, b, -1099511627776, 1099511627776] (by omega) (by omega) (by simp) (by simp)
    rw [ifB_true, h1, Option.bind_some]
    exact ⟨v, p + 2, by simp [Int.add_assoc], by omega, by omega⟩
  | false =>
    obtain ⟨v, h1, h2, h3⟩ := Range_spec L (p := p + 1) (a := a) (b := b) (by omega) (by omega) (by omega) hab (by omega)
    rw [ifB_false, h1, Option.bind_some]
    exact ⟨v, p + 2, by simp [Int.add_assoc], by omega, by omega⟩
theorem AChord_spec (L : List Int) {q : Int} (hq : 0 ≤ q) (hq' : q ≤ 999000000) : ∃ c q', m_gleemake_Stream_AChord L q = some (c, q') ∧ q ≤ q' ∧ q' ≤ q + 10 := by
  unfold m_gleemake_Stream_AChord
  obtain ⟨f, hf⟩ := Flip_spec L (p := q) (n := 40) hq (by omega) (by omega)
  rw [hf, Option.bind_some]
  simp only
  cases f with
  | true =>
    obtain ⟨a, q1, h1, h2, h3⟩ := Odd_specH L (p := q + 1) (a := 0) (b := 11) (by omega) (by omega) (by omega) (by omega) (by omega)
    obtain ⟨b, q2, h4, h5, h6⟩ := Odd_specH L (p := q1) (a := 1) (b := 7) (by omega) (by omega) (by omega) (by omega) (by omega)
    obtain ⟨c, q3, h7, h8, h9⟩ := Odd_specH L (p := q2) (a := 0) (b := 3) (by omega) (by omega) (by omega) (by omega) (by omega)
    rw [ifB_true, h1, Option.bind_some]
    simp only
    rw [h4, Option.bind_some]
    simp only
    rw [h7, Option.bind_some]
    exact ⟨_, _, rfl, by simp only; omega, by simp only; omega⟩
  | false =>
    obtain ⟨a, h1, -⟩ := Range_spec L (p := q + 1) (a := 0) (b := 11) (by omega) (by omega) (by omega) (by omega) (by omega)
    obtain ⟨b, h2, -⟩ := Range_spec L (p := q + 1 + 1) (a := 1) (b := 7) (by omega) (by omega) (by omega) (by omega) (by omega)
    obtain ⟨c, h3, -⟩ := Pick_spec L (p := q + 1 + 1 + 1) [0, 0, 0, 1, 2] (by omega) (by omega) (by simp) (by simp)
    rw [ifB_false, h1, Option.bind_some]
    simp only
    rw [h2, Option.bind_some]
    simp only
    rw [h3, Option.bind_some]
    exact ⟨_, _, rfl, by simp only; omega, by simp only; omega⟩
theorem Chords_spec (L : List Int) {q many : Int} (hq : 0 ≤ q) (hq' : q ≤ 998000000) (hm : 0 ≤ many) (hm' : many ≤ 10) : ∃ l q', m_gleemake_Stream_Chords L q many = some (l, q') ∧ q ≤ q' ∧ q' ≤ q + 1000 := by
  unfold m_gleemake_Stream_Chords
  rw [show rangeI many = some (List.range many.toNat) by unfold rangeI; rw [if_pos (by omega)], Option.bind_some]
  obtain ⟨s, g1, p, out, rfl, g2, g3, g4⟩ := rangeM_invx (m_gleemake_Stream_Chords_l1 L) (List.range many.toNat) (fun i s => ∃ (p : Int) (out : List TChord), s = (p, out) ∧ q ≤ p ∧ p ≤ q + 20 * i ∧ out.length ≤ i) (by
    rintro i x s hx ⟨p, out, rfl, g2, g3, g4⟩
    have hi : i < many.toNat := by have := (List.getElem?_eq_some_iff.1 hx).1; simpa using this
    unfold m_gleemake_Stream_Chords_l1
    simp only
    obtain ⟨c, q1, h1, h2, h3⟩ := AChord_spec L (q := p) (by omega) (by omega)
    obtain ⟨f, hf⟩ := Flip_spec L (p := q1) (n := 2) (by omega) (by omega) (by omega)
    rw [h1, Option.bind_some]
    simp only
    rw [hf, Option.bind_some]
    simp only
    cases f with
    | true =>
      obtain ⟨v, hv, -⟩ := Pick_spec L (p := q1 + 1) [0, 5, 7] (by omega) (by omega) (by simp) (by simp)
      rw [ifB_true, hv, Option.bind_some, Option.bind_some, fin_inl]
      simp only
      rw [appM_of (by simp; omega) (by omega)]
      exact ⟨_, rfl, _, _, rfl, by omega, by omega, by simp; omega⟩
    | false =>
      rw [ifB_false, Option.bind_some, fin_inl]
      simp only
      rw [appM_of (by simp; omega) (by omega)]
      exact ⟨_, rfl, _, _, rfl, by omega, by omega, by simp; omega⟩) (q, []) ⟨_, _, rfl, by omega, by omega, by simp⟩
  rw [g1, Option.bind_some, fin_brk]
  rw [List.length_range] at g3
  exact ⟨_, _, rfl, by simp only; omega, by simp only; omega⟩
theorem EqualChord (l : List TChord) : m_slices_Equal_api_Chord_api_Chord l l = some true := by
  unfold m_slices_Equal_api_Chord_api_Chord
  rw [show ((l.length : Int) != (l.length : Int)) = false by simp, ifB_false]
  obtain ⟨s, h, -⟩ := rangeM_invx (m_slices_Equal_api_Chord_api_Chord_l1 l) l (fun _ _ => True) (fun i x s hx _ => by
    unfold m_slices_Equal_api_Chord_api_Chord_l1
    rw [getI_nat, hx, Option.bind_some, decide_eq_true rfl, Bool.not_true, ifB_false]
    exact ⟨_, rfl, trivial⟩) () trivial
  rw [h]; rfl
theorem errs2 (a b : Int) : m_gleelaw2_errs [a, b] = some (if a = 0 then b else a) := by
  unfold m_gleelaw2_errs
  rw [rangeM_cons]
  unfold m_gleelaw2_errs_l1
  by_cases h : a = 0
  · rw [if_pos h, show (a != 0) = false by simpa using h, ifB_false, Option.bind_some, run_nxt, rangeM_cons]
    by_cases h2 : b = 0
    · rw [show (b != 0) = false by simpa using h2, h2]; rfl
    · rw [show (b != 0) = true by simpa using h2]; rfl
  · rw [if_neg h, show (a != 0) = true by simpa using h]; rfl
theorem sounded_true : m_gleelaw2_sounded = some true := by
  have hI : m_strconv_Itoa 1 = some (ByteArray.mk [49].toArray) := by
    unfold m_strconv_Itoa
    rw [if_pos (by omega)]
    have : Lib.itoa 1 = [49] := by
      have := Lib.itoa_nonneg 1
      rw [Lib.decDigits_one (by omega)] at this
      exact this
    rw [this]
  have hc : m_chord_CheckChord ⟨1, 2, 1⟩ = some 0 := by kernel_rfl
  have hN : m_chord_Name ⟨1, 2, 1⟩ = some (ByteArray.mk [99, 35, 32, 109, 105, 110, 47, 49].toArray, 0) := by
    unfold m_chord_Name
    rw [hc]
    simp only [Option.bind_some]
    rw [hI]
    rfl
  unfold m_gleelaw2_sounded
  rw [hN]
  simp
end Go.G
