/- LH5: what is drawn; the law of the chords that are found. In plain Lean, no program in sight. -/
import Derived.Test.YthonhgainmokhadGreatDoorLH4
import Derived.Lib.ItoaMem
namespace Go.G
open Go Go.J
theorem Odd_specH (L : List Int) {p a b : Int} (hp : 0 ≤ p) (hp' : p ≤ 999999000) (ha : -1000000000 ≤ a) (hab : a ≤ b) (hb : b ≤ 1000000000) :
  ∃ v q, m_gleemake_Stream_Odd L p a b = some (v, q) ∧ p ≤ q ∧ q ≤ p + 2 := by
 unfold m_gleemake_Stream_Odd
 obtain ⟨f, hf⟩ := Flip_spec L (n := 12) hp (by omega) (by omega)
 rw [hf, Option.bind_some]
 cases f with
 | true =>
  obtain ⟨v, h1, h2⟩ := Pick_spec L (p := p + 1) [w64 (a - 1), w64 (b + 1), a, b, -1099511627776, 1099511627776] (by omega) (by omega) (by simp) (by simp)
  rw [ifB_true, h1, Option.bind_some]
  exact ⟨v, p + 2, by simp [Int.add_assoc], by omega, by omega⟩
 | false =>
  obtain ⟨v, h1, h2, h3⟩ := Range_spec L (p := p + 1) (a := a) (b := b) (by omega) (by omega) (by omega) hab (by omega)
  rw [ifB_false, h1, Option.bind_some]
  exact ⟨v, p + 2, by simp [Int.add_assoc], by omega, by omega⟩
theorem AChord_spec (L : List Int) {q : Int} (hq : 0 ≤ q) (hq' : q ≤ 999000000) : ∃ c q', m_gleemake_Stream_AChord L q = some (c, q') ∧ q ≤ q' ∧ q' ≤ q + 10 := by
 unfold m_gleemake_Stream_AChord
 obtain ⟨f, hf⟩ := Flip_spec L (p := q) (n := 40) hq (by omega) (by omega)
 rw [hf, Option.bind_some]
 simp only
 cases f with
 | true =>
  obtain ⟨a, q1, h1, h2, h3⟩ := Odd_specH L (p := q + 1) (a := 0) (b := 11) (by omega) (by omega) (by omega) (by omega) (by omega)
  obtain ⟨b, q2, h4, h5, h6⟩ := Odd_specH L (p := q1) (a := 1) (b := 7) (by omega) (by omega) (by omega) (by omega) (by omega)
  obtain ⟨c, q3, h7, h8, h9⟩ := Odd_specH L (p := q2) (a := 0) (b := 3) (by omega) (by omega) (by omega) (by omega) (by omega)
  rw [ifB_true, h1, Option.bind_some]
  simp only
  rw [h4, Option.bind_some]
  simp only
  rw [h7, Option.bind_some]
  exact ⟨_, _, rfl, by simp only; omega, by simp only; omega⟩
 | false =>
  obtain ⟨a, h1, -⟩ := Range_spec L (p := q + 1) (a := 0) (b := 11) (by omega) (by omega) (by omega) (by omega) (by omega)
  obtain ⟨b, h2, -⟩ := Range_spec L (p := q + 1 + 1) (a := 1) (b := 7) (by omega) (by omega) (by omega) (by omega) (by omega)
  obtain ⟨c, h3, -⟩ := Pick_spec L (p := q + 1 + 1 + 1) [0, 0, 0, 1, 2] (by omega) (by omega) (by simp) (by simp)
  rw [ifB_false, h1, Option.bind_some]
  simp only
  rw [h2, Option.bind_some]
  simp only
  rw [h3, Option.bind_some]
  exact ⟨_, _, rfl, by simp only; omega, by simp only; omega⟩
end Go.G
