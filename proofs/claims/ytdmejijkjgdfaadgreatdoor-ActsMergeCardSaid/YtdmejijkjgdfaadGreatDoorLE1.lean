/- LE1: first errors, equal lists. In plain Lean, no program in sight. -/
import Derived.Test.YtdmejijkjgdfaadGreatDoorLS1
import Derived.Test.YtdmejijkjgdfaadGreatDoorM
namespace Go.G
open Go Go.J
def fst0 : List Int → Int
  | [] => 0
  | k :: t => if k = 0 then fst0 t else k
theorem EqualS_spec (a b : List ByteArray) : m_slices_Equal_string_string a b = some (decide (a = b)) := by
  unfold m_slices_Equal_string_string
  by_cases hl : a.length = b.length
  · have h0 : ((a.length : Int) != (b.length : Int)) = false := by simp [hl]
    rw [h0, ifB_false]
    obtain ⟨f, h1, h2⟩ := rangeM_stop (m_slices_Equal_string_string_l1 b) a (fun i _ => ∀ j, j < i → a[j]? = b[j]?)
      (fun f => (Flow.fin f fun _ => some true) = some (decide (a = b))) (by
      intro i x s hx hI
      have hi := (List.getElem?_eq_some_iff.1 hx).1
      have hb : b[i]? = some b[i] := List.getElem?_eq_getElem (by omega)
      unfold m_slices_Equal_string_string_l1
      rw [getI_of rfl hb, Option.bind_some]
      by_cases he : x = b[i]
      · have : (x.toList == b[i].toList) = true := by rw [he]; simp
        rw [this]
        refine ⟨_, rfl, fun s' _ j hj => ?_, fun _ e => (by cases e), fun _ e => (by cases e)⟩
        rcases Nat.lt_succ_iff_lt_or_eq.1 hj with h | rfl
        · exact hI j h
        · rw [hx, hb, he]
      · have : (x.toList == b[i].toList) = false := by
          rw [beq_eq_false_iff_ne]
          exact fun h => he (ba_toList_inj.1 h)
        rw [this]
        refine ⟨_, rfl, fun s' e => (by cases e), fun _ e => (by cases e), fun v e => ?_⟩
        cases e
        have : a ≠ b := fun h => he (by
          subst h
          rw [List.getElem?_eq_getElem hi] at hx
          exact (Option.some.inj hx).symm)
        rw [decide_eq_false this]; rfl) (fun s hI => by
      have : a = b := List.ext_getElem? fun j => by
        by_cases hj : j < a.length
        · exact hI j hj
        · rw [List.getElem?_eq_none (by omega), List.getElem?_eq_none (by omega)]
      rw [decide_eq_true this]; rfl) () (fun j hj => by omega)
    rw [h1]; exact h2
  · have h0 : ((a.length : Int) != (b.length : Int)) = true := by simp; omega
    rw [h0, ifB_true, decide_eq_false (fun h => hl (congrArg List.length h))]
theorem EqualS_refl (a : List ByteArray) : m_slices_Equal_string_string a a = some true := by rw [EqualS_spec]; simp
end Go.G
