/- LX1: ConcertsStay. In plain Lean, no program in sight. -/
import Derived.Test.YtlkpfhdlfapfhabGreatDoorLX0
import Derived.Test.YtlkpfhdlfapfhabGreatDoorLQ3
import Derived.Test.YtlkpfhdlfapfhabGreatDoorLQ4
import Derived.Test.YtlkpfhdlfapfhabGreatDoorLQ6
import Derived.Test.YtlkpfhdlfapfhabGreatDoorLR1g
namespace Go.G
open Go Go.J
set_option linter.unusedSimpArgs false
set_option linter.unusedVariables false
theorem spoilS (l : List ByteArray) : ∃ r, m_gleekeep2_spoil_string l = some r := spoil_tot ByteArray.empty m_gleekeep2_spoil_string_l1 (fun _ _ _ => rfl) l
theorem spoilI (l : List TItem) : ∃ r, m_gleekeep2_spoil_api_Item l = some r := spoil_tot (TItem.mk ByteArray.empty ByteArray.empty 0 []) m_gleekeep2_spoil_api_Item_l1 (fun _ _ _ => rfl) l
theorem spoilT (l : List TTimed) : ∃ r, m_gleekeep2_spoil_api_Timed l = some r := spoil_tot _ m_gleekeep2_spoil_api_Timed_l1 (fun _ _ _ => rfl) l
theorem EqS (l : List ByteArray) : m_slices_Equal_string_string l l = some true := eq_refl (m_slices_Equal_string_string_l1 l) l fun i x hx => by
  unfold m_slices_Equal_string_string_l1
  rw [getI_of rfl hx, Option.bind_some, show (!(x.toList == x.toList)) = false by simp]; rfl
theorem same_refl (x : TItem) : m_gleeref2_SameItem x x = some true := by
  unfold m_gleeref2_SameItem
  simp [EqS, ifB_true]
theorem EqI (l : List TItem) : m_slices_EqualFunc_api_Item_api_Item_api_Item_api_Item__gleeref2_SameItem l l = some true := eq_refl (m_slices_EqualFunc_api_Item_api_Item_api_Item_api_Item__gleeref2_SameItem_l1 l) l fun i x hx => by
  unfold m_slices_EqualFunc_api_Item_api_Item_api_Item_api_Item__gleeref2_SameItem_l1
  rw [getI_of rfl hx, Option.bind_some, same_refl]; rfl
theorem prog_refl (p : TProgram) : m_gleeref2_SameProgram p p = some true := by
  unfold m_gleeref2_SameProgram
  simp [EqI, ifB_true]
theorem rowsSpoiled (l : List TItem) : ∃ u, rangeM m_gleekeep2_ConcertsStay_l1 0 l l = some (.brk u) := by
  obtain ⟨u, h1, h2⟩ := rangeM_invx m_gleekeep2_ConcertsStay_l1 l (fun _ u => u.length = l.length) (by
    intro i x u hx hu
    have hi := (List.getElem?_eq_some_iff.1 hx).1
    unfold m_gleekeep2_ConcertsStay_l1
    rw [getI_of rfl (List.getElem?_eq_getElem (by omega)), Option.bind_some]
    obtain ⟨r, hr⟩ := spoilS (u[i]'(by omega)).Parts
    rw [hr, Option.bind_some]
    exact ⟨_, rfl, by rw [List.length_set]; exact hu⟩) l rfl
  exact ⟨u, h1⟩
/-- THE LAW: at every seed the answer is true. -/
theorem ConcertsStay_true (L : List Int) : m_gleekeep2_ConcertsStay L = some true := by
  unfold m_gleekeep2_ConcertsStay
  obtain ⟨p, q, h1, h2, h3, h4, hr⟩ := RightProgram_right L (q := 0) (most := 5) (by omega) (by omega) (by omega) (by omega)
  have h := hr.good
  have hl := hr.len
  rw [h1, Option.bind_some, Option.bind_some]
  simp only
  obtain ⟨y, hy, ho, hmin⟩ := Order_good h (by omega)
  rw [ho, Option.bind_some]
  simp only
  rw [Moved_good h hy, Option.bind_some]
  simp only
  obtain ⟨u, hu⟩ := rowsSpoiled (setI p y).Items
  rw [hu, Option.bind_some, fin_brk]
  obtain ⟨v, hv⟩ := spoilI u
  rw [hv, Option.bind_some, Timetable_good h (by omega) (by omega), Option.bind_some]
  simp only
  obtain ⟨v2, hv2⟩ := spoilT ((List.range p.Items.length).map (tm p 0))
  rw [hv2, Option.bind_some]
  obtain ⟨m, hm, -⟩ := Fitting_best h hl (t := 300) (by omega) (by omega)
  rw [hm, Option.bind_some]
  simp only
  obtain ⟨v3, hv3⟩ := spoilS ((chI m 0 p.Items).map (·.Key))
  rw [hv3, Option.bind_some, prog_refl, Option.bind_some, ifB_true, ready_true]
  rfl
end Go.G
