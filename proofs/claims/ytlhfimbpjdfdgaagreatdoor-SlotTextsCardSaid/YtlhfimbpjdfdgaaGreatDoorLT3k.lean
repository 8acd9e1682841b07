/- LT3k: numbers that the program reads in a row. In plain Lean, no program in sight. -/
import Derived.Test.YtlhfimbpjdfdgaaGreatDoorLT3
namespace Go.G
open Go Go.J
set_option linter.unusedSimpArgs false
set_option linter.unusedVariables false
theorem kitNums_loop : ∀ (l : List ByteArray) (i : Nat) (u : List Int), (∀ x ∈ l, x.size ≤ 1000000) → u.length + l.length ≤ 1000000 →
    rangeM m_kit_Numbers_l1 i l u = some (match allN l with | some r => .brk (u ++ r) | none => .ret ([], false)) := by
  intro l
  induction l with
  | nil => intro i u _ _; simp [allN]
  | cons x t ih =>
    intro i u hs hu
    simp only [List.length_cons] at hu
    have h1 := (Number_spec x (hs x (List.mem_cons_self ..))).1
    have hstep : m_kit_Numbers_l1 i x u = some (match numB x with | some n => .nxt (u ++ [n]) | none => .ret ([], false)) := by
      unfold m_kit_Numbers_l1
      rw [h1, Option.bind_some]
      simp only
      cases numB x with
      | none => rfl
      | some n =>
        simp only [Option.isSome_some, Option.getD_some, Bool.not_true, ifB_false]
        rw [appM_of (by simp; omega) (by omega)]; rfl
    rw [rangeM_cons, hstep, allN_cons]
    cases numB x with
    | none => rfl
    | some n =>
      simp only [Option.bind_some, run_nxt]
      rw [ih (i + 1) (u ++ [n]) (fun z hz => hs z (List.mem_cons_of_mem _ hz)) (by simp; omega)]
      cases allN t with
      | none => rfl
      | some r => simp
theorem kitNums_spec (l : List ByteArray) (hs : ∀ x ∈ l, x.size ≤ 1000000) (hl : l.length ≤ 1000000) : m_kit_Numbers l = some (match allN l with | some r => (r, true) | none => ([], false)) := by
  unfold m_kit_Numbers
  rw [kitNums_loop l 0 [] hs (by simpa using hl), Option.bind_some]
  cases allN l <;> rfl
end Go.G
