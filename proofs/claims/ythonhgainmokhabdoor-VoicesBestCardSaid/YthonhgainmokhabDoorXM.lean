/- XM: the models of the library's functions that are met by contract. No program in sight. -/
import Derived.Test.YthonhgainmokhabDoorJB
import Derived.Lib.ItoaNum
import Derived.Lib.SlicesCompact
namespace Go.G
open Go Go.J
def m_strconv_Itoa (n : Int) : Option ByteArray := if -9223372036854775808 ≤ n ∧ n ≤ 9223372036854775807 then some ⟨(Lib.itoa n).toArray⟩ else none
noncomputable def m_slices_Sort_int_int (xs : List Int) : Option (List Int) := if xs.length < 4611686018427387904 then some (xs.mergeSort fun x y => decide (x ≤ y)) else none
noncomputable def m_slices_Compact_int_int (xs : List Int) : Option (List Int) := if xs.length ≤ 9223372036854775807 then some (Lib.compact xs) else none
theorem compact_le (zs : List Int) : (Lib.compact zs).length ≤ zs.length := by
  unfold Lib.compact Lib.compactUpTo
  rw [List.length_map]
  exact Nat.le_trans (List.length_filter_le ..) (by simp)
end Go.G
