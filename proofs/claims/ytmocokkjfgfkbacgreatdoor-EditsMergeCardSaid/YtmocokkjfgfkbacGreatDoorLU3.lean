/- LU3: tones in bars, as they are played, joined, and their range, in plain Lean. No program in sight. -/
import Derived.Test.YtmocokkjfgfkbacGreatDoorLU2
namespace Go.G
open Go Go.J
set_option linter.unusedSimpArgs false
/-! ### as they are played -/
theorem loosened_eq : m_piece_loosened_l1 = m_gleeref2_untied_l1 := by
  funext i x u
  unfold m_piece_loosened_l1 m_gleeref2_untied_l1
  simp only [(carries_spec _ _).1, (carries_spec _ _).2, Option.bind_some]
theorem set_texts {s : List TTone} {i : Nat} (hi : i < s.length) {y : TTone} (hy : y.Text = s[i].Text) : (s.set i y).map (·.Text) = s.map (·.Text) := by
  rw [List.map_set, hy]
  have : s[i].Text = (s.map (·.Text))[i]'(by simpa using hi) := by simp
  rw [this, List.set_getElem_self]
theorem loosened_spec (t : List TTone) (hl : t.length ≤ 100000000) : ∃ u, m_piece_loosened t = some (u, u) ∧ m_gleeref2_untied t = some (u, u) ∧ u.length = t.length ∧ u.map (·.Text) = t.map (·.Text) := by
  obtain ⟨u, h1, h2⟩ := rangeM_invx m_gleeref2_untied_l1 t (fun _ s => s.length = t.length ∧ s.map (·.Text) = t.map (·.Text)) (by
    rintro i x s hx ⟨hs, hm⟩
    have hi : i < s.length := by rw [hs]; exact (List.getElem?_eq_some_iff.1 hx).1
    have hg : getI s (i : Int) = some s[i] := getI_of (n := i) rfl (List.getElem?_eq_getElem hi)
    unfold m_gleeref2_untied_l1
    rw [w64_id (n := (s.length : Int) - 1) (by omega), w64_id (n := (i : Int) + 1) (by omega)]
    by_cases he : i + 1 = s.length
    · have e1 : ((i : Int) == (s.length : Int) - 1) = true := by simp; omega
      simp only [e1, ifB_true, hg, Option.bind_some]
      exact ⟨_, rfl, by simp [hs], (set_texts (i := i) hi (y := ⟨s[i].Note, s[i].Long, s[i].Text, false⟩) rfl).trans hm⟩
    · have e1 : ((i : Int) == (s.length : Int) - 1) = false := by simp; omega
      have hg2 : getI s ((i : Int) + 1) = some s[i + 1] := getI_of (n := i + 1) (by omega) (List.getElem?_eq_getElem (by omega))
      simp only [e1, ifB_false, hg, hg2, Option.bind_some, (carries_spec _ _).2]
      cases carryB s[i] s[i + 1]
      · exact ⟨_, rfl, by simp [hs], (set_texts (i := i) hi (y := ⟨s[i].Note, s[i].Long, s[i].Text, false⟩) rfl).trans hm⟩
      · exact ⟨_, rfl, hs, hm⟩) t ⟨rfl, rfl⟩
  refine ⟨u, ?_, ?_, h2⟩
  · unfold m_piece_loosened
    rw [loosened_eq, h1]; rfl
  · unfold m_gleeref2_untied
    rw [h1]; rfl
end Go.G
