/- LEg: the first of errors. In plain Lean, no program in sight. -/
import Derived.Test.YtdmejijkjgdfaadGreatDoorLKr
namespace Go.G
open Go Go.J
set_option linter.unusedSimpArgs false
set_option linter.unusedVariables false
/-! errors -/
def errG : List Int → Int
  | [] => 0
  | x :: t => bif x != 0 then x else errG t
theorem errsG (l : List Int) : m_gleelaw2_errs l = some (errG l) := by
  unfold m_gleelaw2_errs
  have key : ∀ (t : List Int) (i : Nat), ((rangeM m_gleelaw2_errs_l1 i t ()).bind fun f7 => Flow.fin f7 fun _ => some 0) = some (errG t) := by
    intro t
    induction t with
    | nil => intro i; rfl
    | cons x t ih =>
      intro i
      have hst : m_gleelaw2_errs_l1 i x () = some (bif x != 0 then .ret x else .nxt ()) := by
        unfold m_gleelaw2_errs_l1
        cases x != 0 <;> rfl
      rw [rangeM_cons, hst, errG]
      cases hx : x != 0 with
      | true => rfl
      | false => rw [cond_false, cond_false, Option.bind_some, run_nxt]; exact ih (i + 1)
  exact key l 0
theorem errG0 {x : Int} {t : List Int} (h : x = 0) : errG (x :: t) = errG t := by subst h; rfl
theorem errG1 {x : Int} {t : List Int} (h : x ≠ 0) : errG (x :: t) = x := by unfold errG; rw [bne_iff_ne.2 h]; rfl
end Go.G
