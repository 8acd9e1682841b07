/- LE0: strings among strings. In plain Lean, no program in sight. -/
import Derived.Test.YtlkpfhdlfapfhabGreatDoorLQ2
namespace Go.G
open Go Go.J
def memB (s : ByteArray) (a : List ByteArray) : Bool := a.any fun x => decide (x = s)
theorem memB_iff {s : ByteArray} {a : List ByteArray} : memB s a = true ↔ s ∈ a := by
  unfold memB
  simp only [List.any_eq_true, decide_eq_true_eq]
  exact ⟨fun ⟨x, h, e⟩ => e ▸ h, fun h => ⟨s, h, rfl⟩⟩
theorem memB_of {s : ByteArray} {a : List ByteArray} (h : s ∈ a) : memB s a = true := memB_iff.2 h
theorem memB_not {s : ByteArray} {a : List ByteArray} (h : ¬ s ∈ a) : memB s a = false := by rw [← Bool.not_eq_true, memB_iff]; exact h
theorem ContainsS_spec (a : List ByteArray) (s : ByteArray) : m_slices_Contains_string_string a s = some (memB s a) := by
  unfold m_slices_Contains_string_string m_slices_Index_string_string
  obtain ⟨f, h1, h2⟩ := rangeM_stop (m_slices_Index_string_string_l1 s) a (fun i _ => ∀ j x, j < i → a[j]? = some x → x ≠ s)
    (fun f => (Flow.fin f fun _ => some (-1 : Int)).bind (fun y => some (decide (y ≥ 0))) = some (memB s a)) (by
    intro i x u hx hI
    unfold m_slices_Index_string_string_l1
    by_cases he : s = x
    · have : (s.toList == x.toList) = true := by rw [he]; simp
      rw [this]
      refine ⟨_, rfl, fun _ e => (by cases e), fun _ e => (by cases e), fun v e => ?_⟩
      cases e
      rw [memB_of (show s ∈ a by rw [he]; exact List.mem_of_getElem? hx)]
      simp [Flow.fin]
    · have : (s.toList == x.toList) = false := by
        rw [beq_eq_false_iff_ne]
        exact fun h => he (ba_toList_inj.1 h)
      rw [this]
      refine ⟨_, rfl, fun s' _ j y hj hy => ?_, fun _ e => (by cases e), fun _ e => (by cases e)⟩
      rcases Nat.lt_succ_iff_lt_or_eq.1 hj with h | rfl
      · exact hI j y h hy
      · rw [hx] at hy; cases hy; exact fun h => he h.symm) (fun u hI => by
    have : ¬ s ∈ a := fun h => by
      obtain ⟨j, hj, e⟩ := List.getElem_of_mem h
      exact hI j s hj (by rw [List.getElem?_eq_getElem hj, e]) rfl
    rw [memB_not this]; rfl) () (fun j x hj => by omega)
  rw [h1, Option.bind_some]
  exact h2
end Go.G
