/- LH4: Shared, Shift and Keys. In plain Lean, no program in sight. -/
import Derived.Test.YtmocokkjfgfkbabDoorLH3
namespace Go.G
open Go Go.J
theorem right_tones {c : TChord} (h : ∃ r k t, Right c r k t) : ∃ T, m_chord_tones c = some T ∧ m_gleeref2_TonesOf c = some T ∧ T.length ≤ 4 ∧ ∀ x ∈ T, 0 ≤ x ∧ x ≤ 11 := by
  obtain ⟨r, k, t, rfl, hr, hk, ht⟩ := h
  have := klen_le hk
  exact tones_spec hr hk (t := t) (by omega)
def scale (i : Nat) : List Int := ([0, 2, 4, 5, 7, 9, 11] : List Int).map fun x => (w64 ((i : Int) + x)).tmod 12
def chkK (i t : Nat) : Bool := (([0, 2, 4, 5, 7, 9, 11] : List Int).any fun y => (w64 ((w64 ((t : Int) - (i : Int))) + 12)).tmod 12 == y) == (scale i).any fun y => (t : Int) == y
end Go.G
