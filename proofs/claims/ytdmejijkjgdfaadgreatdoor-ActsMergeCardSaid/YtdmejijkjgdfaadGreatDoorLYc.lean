/- LYc: which acts count, as it is told. In plain Lean, no program in sight. -/
import Derived.Test.YtdmejijkjgdfaadGreatDoorLY6
namespace Go.G
open Go Go.J
theorem Counting_spec (l : List TAct) (at_ : Int) : m_club_Counting l at_ = some (if askF l at_ = 0 then (cntIx at_ 0 l, 0) else ([], askF l at_)) := by
  unfold m_club_Counting
  rw [askedFault_spec, Option.bind_some]
  by_cases h : askF l at_ = 0
  · rw [show (askF l at_ != 0) = false by simpa using h, ifB_false, counting_spec l at_ (by have := (askF_zero h).1.len; omega), if_pos h]; rfl
  · rw [show (askF l at_ != 0) = true by simpa using h, ifB_true, if_neg h]
end Go.G
