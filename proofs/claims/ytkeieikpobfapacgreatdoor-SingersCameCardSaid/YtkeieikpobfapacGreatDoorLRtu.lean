/- LRtu: (maps whose order is not known) rehearse does something: who is there. In plain Lean, no program in sight. -/
import Derived.Test.YtkeieikpobfapacGreatDoorLQ0
namespace Go.G
open Go Go.J
theorem anyOrd_one {α β : Type} (a : α) (f : List α → Option β) : anyOrd [a] f = f [a] := by
 cases h : f [a] with
 | some r => exact anyOrd_of fun L' hL => by rw [List.perm_singleton.1 hL]; exact h
 | none =>
  cases h2 : anyOrd [a] f with
  | none => rfl
  | some r => have := anyOrd_spec h2 [a] (List.Perm.refl _); rw [h] at this; cases this
theorem sort_one (a : ByteArray) : m_slices_Sort_string_string [a] = some [a] := by
 unfold m_slices_Sort_string_string
 rw [if_pos (by simp), List.map_cons, List.map_nil, List.mergeSort_singleton]
 rfl
def annB : ByteArray := ByteArray.mk [97, 110, 110].toArray
theorem canonM_one {α : Type} (a : α) : canonM [a] = [a] := List.perm_singleton.1 (canonM_perm [a])
theorem ready_there : m_rehearse_There [(TCame.mk 5 annB false)] 6 = some ([annB], 0) := by
 have hp : m_rehearse_presences [(TCame.mk 5 annB false)] = some [(annB, [⟨5, 345686400000⟩])] := by
  unfold m_rehearse_presences
  rw [show rangeM m_rehearse_presences_l1 0 [(TCame.mk 5 annB false)] ([], []) = some (.brk ([(annB, 5)], [])) by kernel_rfl, Option.bind_some, fin_brk]
  simp only
  rw [anyOrd_one, show rangeM m_rehearse_presences_l2 0 [(annB, 5)] [] = some (.brk [(annB, [⟨5, 345686400000⟩])]) by kernel_rfl, Option.bind_some, fin_brk]
  simp only [List.map_cons, List.map_nil]
  rw [anyOrd_one, show rangeM m_rehearse_presences_l3 0 [annB] [(annB, [⟨5, 345686400000⟩])] = some (.brk [(annB, [⟨5, 345686400000⟩])]) by kernel_rfl, Option.bind_some, fin_brk, canonM_one]
 unfold m_rehearse_There
 rw [show m_rehearse_CheckCame [(TCame.mk 5 annB false)] = some 0 by kernel_rfl, Option.bind_some, show ((0 : Int) != 0) = false from rfl, ifB_false, show m_kit_IsMoment 6 = some true by kernel_rfl, Option.bind_some, Bool.not_true, ifB_false, hp, Option.bind_some, anyOrd_one]
 simp only [List.map_cons, List.map_nil]
 rw [anyOrd_one, show rangeM (m_rehearse_There_l1 6 [(annB, [⟨5, 345686400000⟩])]) 0 [annB] [] = some (.brk [(annB, true)]) by kernel_rfl, Option.bind_some, fin_brk]
 unfold m_slices_Sorted_string__maps_Keys_map_string_bool_string_bool_1
 rw [if_pos (by simp), List.map_cons, List.map_nil, sort_one]; rfl
end Go.G
