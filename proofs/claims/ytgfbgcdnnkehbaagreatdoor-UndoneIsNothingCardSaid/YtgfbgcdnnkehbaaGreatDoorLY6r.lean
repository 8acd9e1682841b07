/- LY6r: which acts are refused. In plain Lean, no program in sight. -/
import Derived.Test.YtgfbgcdnnkehbaaGreatDoorLY6
namespace Go.G
open Go Go.J
set_option linter.unusedSimpArgs false
theorem Refused_spec (l : List TAct) (at_ : Int) : m_club_Refused l at_ = some (if askF l at_ = 0 then ((booksOf l at_).rf, 0) else ([], askF l at_)) := by
  unfold m_club_Refused
  rw [checkedAt_spec, Option.bind_some]
  by_cases h : askF l at_ = 0
  · simp only [if_pos h]; rfl
  · simp only [if_neg h, optB_none]
    rw [show (askF l at_ != 0) = true by simpa using h, ifB_true]
end Go.G
