/- LSh: models that this row does not reach, as laws that serve other rows too name them. Written by program. -/
import Derived.Test.YtlhfimbpjdfdgadGreatDoorM
import Derived.Lib.Bytealg
namespace Go.G
open Go Go.J
set_option linter.unusedVariables false
noncomputable section
def m_stringslite_TrimPrefix (a0 : ByteArray) (a1 : ByteArray) : Option ByteArray :=
 (m_stringslite_HasPrefix a0 a1).bind fun y1 => ifB y1 ((strS a0 (a1.size : Int) (a0.size : Int)).bind fun c2 => some c2) (some a0)
def m_strings_TrimPrefix (a0 : ByteArray) (a1 : ByteArray) : Option ByteArray :=
 (m_stringslite_TrimPrefix a0 a1).bind fun y1 => some y1
def m_gleeref2_Number (a0 : ByteArray) (a1 : Int) : Option (Int × Bool) :=
 (m_strings_TrimPrefix a0 (ByteArray.mk [45].toArray)).bind fun y1 => (ifB (y1.toList == ByteArray.empty.toList) (some (.inl true)) (ifB (decide ((y1.size : Int) > a1)) (some (.inl true)) ((m_gleeref2_only y1 (ByteArray.mk [48, 49, 50, 51, 52, 53, 54, 55, 56, 57].toArray)).bind fun y5 => some (.inl (!y5)))) : Option (Bool ⊕ (Int × Bool))).bind fun k4 => Sum.fin k4 fun u2 => ifB u2 (some (0, false)) ((m_strconv_Atoi a0).bind fun y6 => (m_strconv_Itoa y6.1).bind fun y7 => some (y6.1, y7.toList == a0.toList))
end
end Go.G
