/- XM: the models of the library's functions that are met by contract. No program in sight. -/
import Derived.Test.YtmcooogdeocldaaDoorJB
import Derived.Lib.BitFns
import Derived.Lib.ItoaNum
namespace Go.G
open Go Go.J
def m_bits_Len64 (x : Int) : Option Int := if 0 ≤ x ∧ x ≤ 18446744073709551615 then some (Lib.bitLen x.toNat) else none
def m_strconv_Itoa (n : Int) : Option ByteArray := if -9223372036854775808 ≤ n ∧ n ≤ 9223372036854775807 then some ⟨(Lib.itoa n).toArray⟩ else none
end Go.G
