/- LT5: words written: numerals, joins, appends. In plain Lean, no program in sight. -/
import Derived.Test.YtlhfimbpjdfdgadGreatDoorLT2
namespace Go.G
open Go Go.J
set_option linter.unusedSimpArgs false
set_option linter.unusedVariables false
theorem itoa_len {n : Int} (h : -9223372036854775808 ≤ n ∧ n ≤ 9223372036854775807) : (Lib.itoa n).length ≤ 21 := Lib.itoa_length_le n (by omega) (by omega)
theorem Itoa_is {n : Int} (h : -9223372036854775808 ≤ n ∧ n ≤ 9223372036854775807) : m_strconv_Itoa n = some (toB (Lib.itoa n)) := by unfold m_strconv_Itoa; rw [if_pos h]; rfl
theorem toB_app (a b : BL) : toB a ++ toB b = toB (a ++ b) := ba_ext (by rw [app_data]; rfl)
theorem kitJoin_spec (L : List ByteArray) (h : L.length ≤ 1000000) (hl : (jn 32 (L.map (·.data.toList))).length ≤ 1000000000) : m_kit_Join L = some (toB (jn 32 (L.map (·.data.toList)) ++ [10])) := by
 unfold m_kit_Join
 rw [show (ByteArray.mk [32].toArray) = oneB 32 from rfl, Join_spec 32 L h hl, Option.bind_some, catM_of (by rw [toB_size, show (ByteArray.mk [10].toArray).size = 1 from rfl]; omega), show (ByteArray.mk [10].toArray) = toB [10] from rfl, toB_app]; rfl
theorem write_is {a b : BL} (h : a.length + b.length ≤ 1000000) : m_bWriteString (toB a) (toB b) = some (toB (a ++ b)) := by
 unfold m_bWriteString
 rw [if_pos (by rw [toB_size, toB_size]; omega), toB_app]
end Go.G
