/- LY6n: the books, asked with a name. In plain Lean, no program in sight. -/
import Derived.Test.YtobglahldcnnmabGreatDoorLY6
namespace Go.G
open Go Go.J
set_option linter.unusedSimpArgs false
def nameF (l : List TAct) (who : ByteArray) (at_ : Int) : Int := bif askF l at_ != 0 then askF l at_ else bif isKey who then 0 else 5
theorem named_spec (l : List TAct) (who : ByteArray) (at_ : Int) : m_club_named l who at_ = some (if nameF l who at_ = 0 then (some (bookT l at_), 0) else (none, nameF l who at_)) := by
  unfold m_club_named nameF
  rw [checkedAt_spec, Option.bind_some, isKey_prog]
  simp only [Option.bind_some]
  by_cases h : askF l at_ = 0
  · simp only [if_pos h, optB_some, show (askF l at_ != 0) = false by simpa using h, cond_false]
    rw [show ((0 : Int) != 0) = false from rfl, ifB_false]
    cases isKey who <;> rfl
  · simp only [if_neg h, optB_none, show (askF l at_ != 0) = true by simpa using h, cond_true, ifB_true]
end Go.G
