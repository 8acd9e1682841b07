/- LT5r: the reference writes numbers. In plain Lean, no program in sight. -/
import Derived.Test.YtlhfimbpjdfdgaaGreatDoorLT5
import Derived.Test.YtlhfimbpjdfdgaaGreatDoorLS1
namespace Go.G
open Go Go.J
set_option linter.unusedSimpArgs false
set_option linter.unusedVariables false
theorem Numbers_is (l : List Int) (hl : l.length ≤ 1000) (h : ∀ n ∈ l, -9223372036854775808 ≤ n ∧ n ≤ 9223372036854775807) : m_gleeref2_Numbers l = some (toB (jn 32 (l.map Lib.itoa))) := by
  unfold m_gleeref2_Numbers
  obtain ⟨u, g1, g2⟩ := rangeM_invx m_gleeref2_Numbers_l1 l (fun i u => u = (l.take i).map fun n => toB (Lib.itoa n)) (by
    rintro i x u hx rfl
    have hi := (List.getElem?_eq_some_iff.1 hx).1
    unfold m_gleeref2_Numbers_l1
    rw [Itoa_is (h x (List.mem_of_getElem? hx)), Option.bind_some, appM_of (by simp; omega) (by omega), Option.bind_some]
    refine ⟨_, rfl, ?_⟩
    rw [List.take_add_one, hx]
    simp) [] rfl
  have e : ((l.map fun n => toB (Lib.itoa n)).map (·.data.toList)) = l.map Lib.itoa := by simp [data_toB]
  have key : ∀ (l : List Int), (∀ n ∈ l, -9223372036854775808 ≤ n ∧ n ≤ 9223372036854775807) → ((l.map Lib.itoa).map (·.length + 1)).sum ≤ 22 * l.length := by
    intro l
    induction l with
    | nil => intro _; simp
    | cons x t ih =>
      intro hx
      have h1 := ih fun n hn => hx n (List.mem_cons_of_mem _ hn)
      have h2 := itoa_len (hx x (List.mem_cons_self ..))
      simp only [List.map_cons, List.sum_cons, List.length_cons] at h1 ⊢
      omega
  have h3 : (jn 32 (l.map Lib.itoa)).length ≤ 22 * l.length := Nat.le_trans (jn_len 32 (l.map Lib.itoa)) (key l h)
  rw [g1, Option.bind_some, fin_brk, g2, List.take_length, show (ByteArray.mk [32].toArray) = oneB 32 from rfl, Join_spec 32 _ (by simp; omega) (by rw [e]; omega), e]; rfl
end Go.G
