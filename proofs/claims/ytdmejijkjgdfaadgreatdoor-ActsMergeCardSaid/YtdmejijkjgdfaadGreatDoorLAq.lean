/- LAq: club.Write, and the reference's. In plain Lean, no program in sight. -/
import Derived.Test.YtdmejijkjgdfaadGreatDoorLAo
namespace Go.G
open Go Go.J
set_option linter.unusedSimpArgs false
set_option linter.unusedVariables false
theorem Write_A {l : List TAct} (h : actsF l = 0) (hl : l.length ≤ 1000) (hcl : m_slices_Clone_api_Act_api_Act l = some l) (x : TAct) :
    ∃ v e, m_club_Write l x = some (v, e) ∧ m_gleeref2_WriteAct l x = some (v, e) := by
  have hA := (actsF_zero l).1 h
  unfold m_club_Write m_gleeref2_WriteAct
  rw [CheckActs_spec, h, Option.bind_some, show ((0 : Int) != 0) = false from rfl, ifB_false]
  cases hn : x.No != 0 with
  | true => exact ⟨_, _, rfl, rfl⟩
  | false =>
    rw [ifB_false, ifB_false]
    have hloop : ∀ (t : List TAct) (i : Nat) (n : Int), ∃ m, rangeM (m_club_Write_l1 x) i t n = some (.brk m) ∧ rangeM (m_gleeref2_WriteAct_l1 x) i t n = some (.brk m) := by
      intro t
      induction t with
      | nil => intro i n; exact ⟨n, rfl, rfl⟩
      | cons y t ih =>
        intro i n
        have h1 : ∃ m, m_club_Write_l1 x i y n = some (.nxt m) ∧ m_gleeref2_WriteAct_l1 x i y n = some (.nxt m) := by
          unfold m_club_Write_l1 m_gleeref2_WriteAct_l1
          cases (y.Site.toList == x.Site.toList)
          · exact ⟨_, rfl, rfl⟩
          · exact ⟨_, rfl, rfl⟩
        obtain ⟨m, g1, g2⟩ := h1
        rw [rangeM_cons, rangeM_cons, g1, g2, Option.bind_some, Option.bind_some, run_nxt, run_nxt]
        exact ih (i + 1) m
    obtain ⟨m, g1, g2⟩ := hloop l 0 x.No
    rw [g1, g2, Option.bind_some, Option.bind_some, fin_brk, fin_brk]
    generalize TAct.mk x.Site (w64 (m + 1)) x.At x.Kind x.Who x.Motion x.Cents x.Yes x.Of x.Other = y
    rw [formed_spec, ActFault_spec, Option.bind_some, Option.bind_some]
    cases hy : actF y != 0 with
    | true => exact ⟨_, _, rfl, rfl⟩
    | false =>
      rw [ifB_false, ifB_false]
      have hy0 : actF y = 0 := by simpa using hy
      have happ : appM 112 l [y] = some (l ++ [y]) := appM_of (by rw [List.length_singleton]; omega) (by omega)
      have hb : ((l.length : Int) == 2000) = false := by rw [beq_eq_false_iff_ne]; omega
      rw [hcl, Option.bind_some, happ, hb, decide_eq_false (show ¬ (l.length : Int) ≥ 2000 by omega)]
      by_cases h0 : l.length = 0
      · rw [decide_eq_false (show ¬ (l.length : Int) > 0 by omega)]
        exact ⟨_, _, rfl, rfl⟩
      · have hg : l[l.length - 1]? = some (l[l.length - 1]'(by omega)) := List.getElem?_eq_getElem (by omega)
        have hw : w64 ((l.length : Int) - 1) = ((l.length - 1 : Nat) : Int) := by rw [w64_id (by omega)]; omega
        rw [decide_eq_true (show (l.length : Int) > 0 by omega), ifB_true, ifB_true, getI_of (n := l.length - 1) hw hg]
        simp only [Option.bind_some, fin_inl]
        rw [compare_spec, ActOrder_spec (small_of (hA.ok _ (List.getElem_mem ..))) (small_of hy0)]
        simp only [Option.bind_some]
        cases decide (cmpA (l[l.length - 1]'(by omega)) y ≥ 0)
        · exact ⟨_, _, rfl, rfl⟩
        · exact ⟨_, _, rfl, rfl⟩
end Go.G
