/- LC3b: how long a program is, in the reference. No program in sight. -/
import Derived.Test.YtgjbeigeejhfkaaDoorLC3
namespace Go.G
open Go Go.J
theorem LongOf_spec {p : TProgram} (h : ProgOK p) : m_gleeref2_LongOfProgram p = some (bg p p.Items.length) := by
  unfold m_gleeref2_LongOfProgram
  rw [TimedOf_spec h (by omega) (by omega), Option.bind_some]
  have hl := h.len
  cases hn : p.Items.length with
  | zero => rfl
  | succ n =>
    have e1 : ((((List.range (n + 1)).map (tm p 0)).length : Int) == 0) = false := by simp; omega
    rw [e1, ifB_false]
    have e2 : ((List.range (n + 1)).map (tm p 0))[n]? = some (tm p 0 n) := by simp
    rw [getI_of (n := n) (by rw [w64_id (by simp; omega)]; simp) e2, Option.bind_some]
    unfold tm
    simp only [bg]
    rw [if_neg (by omega)]
    congr 1; omega
end Go.G
