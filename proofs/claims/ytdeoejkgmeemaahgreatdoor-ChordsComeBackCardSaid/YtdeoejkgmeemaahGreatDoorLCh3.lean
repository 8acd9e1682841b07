/- LCh3: the tones of each right chord. In plain Lean, no program in sight. -/
import Derived.Test.YtdeoejkgmeemaahGreatDoorLCh2
namespace Go.G
open Go Go.J
def chk (c : TChord) : Bool := match m_chord_tones c, m_chord_tones ⟨c.Root, c.Kind, 0⟩ with
  | some T, some T0 => decide (T.length ≤ 4) && (!T.isEmpty) && T.all (fun x => decide (0 ≤ x ∧ x ≤ 11)) && T.isPerm T0 && (match m_slices_Index_int_int T0 (T.headD 0) with | some t => t == c.Turn | none => false)
  | _, _ => false
theorem chk_all {c : TChord} (h : ChOK c) : chk c = true := by
  refine chord_cases (Q := fun c => chk c = true) (fun r hr k hk t ht hm => ?_) h
  unfold manyT at hm
  have hr' : r = 0 ∨ r = 1 ∨ r = 2 ∨ r = 3 ∨ r = 4 ∨ r = 5 ∨ r = 6 ∨ r = 7 ∨ r = 8 ∨ r = 9 ∨ r = 10 ∨ r = 11 := by omega
  have hk' : k = 0 ∨ k = 1 ∨ k = 2 ∨ k = 3 ∨ k = 4 ∨ k = 5 ∨ k = 6 := by omega
  have ht' : t = 0 ∨ t = 1 ∨ t = 2 ∨ t = 3 := by omega
  rcases hr' with rfl | rfl | rfl | rfl | rfl | rfl | rfl | rfl | rfl | rfl | rfl | rfl <;> rcases hk' with rfl | rfl | rfl | rfl | rfl | rfl | rfl <;> rcases ht' with rfl | rfl | rfl | rfl <;>
    first
      | (exfalso; revert hm; decide)
      | (show chk _ = true; kernel_rfl)
/-- what is known of a right chord's tones -/
theorem tones_of {c : TChord} (h : ChOK c) : ∃ T T0, m_chord_tones c = some T ∧ m_chord_tones ⟨c.Root, c.Kind, 0⟩ = some T0 ∧ T.length ≤ 4 ∧ T ≠ [] ∧ (∀ x ∈ T, 0 ≤ x ∧ x ≤ 11) ∧ T.Perm T0 ∧ m_slices_Index_int_int T0 (T.headD 0) = some c.Turn := by
  have hc := chk_all h
  unfold chk at hc
  split at hc
  · rename_i T T0 e1 e2
    simp only [Bool.and_eq_true, decide_eq_true_eq, List.all_eq_true, Bool.not_eq_true', List.isEmpty_eq_false_iff] at hc
    obtain ⟨⟨⟨⟨c1, c2⟩, c3⟩, c4⟩, c5⟩ := hc
    refine ⟨T, T0, e1, e2, c1, c2, c3, List.isPerm_iff.1 c4, ?_⟩
    split at c5
    · rename_i t e3
      rw [e3]
      rw [beq_iff_eq] at c5
      rw [c5]
    · cases c5
  · cases hc
end Go.G
