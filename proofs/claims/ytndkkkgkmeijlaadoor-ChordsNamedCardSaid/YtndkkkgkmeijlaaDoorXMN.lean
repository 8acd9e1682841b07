/- XMN: the models of the library's functions that are met by contract (for the chords' names). No program in sight. -/
import Derived.Test.YtndkkkgkmeijlaaDoorJ17
import Derived.Lib.Bytealg
import Derived.Lib.SlTrimSet
import Derived.Lib.Atoi
import Derived.Lib.ItoaNum
namespace Go.G
open Go Go.J
def m_stringslite_IndexByte (s : ByteArray) (c : Int) : Option Int := some (Lib.indexByte s.data.toList c.toNat.toUInt8)
def m_strings_Trim (s c : ByteArray) : Option ByteArray :=
  if s.size ≤ 9223372036854775807 ∧ c.size < 4294967281 ∧ c.data.toList.all (fun b => decide (b.toNat < 128)) = true then some ⟨(Lib.trimS s.data.toList c.data.toList).toArray⟩ else none
def m_strconv_Atoi (s : ByteArray) : Option (Int × Unit) := if s.size ≤ 18 then (Lib.atoi s.data.toList).map fun n => (n, ()) else none
def m_strconv_Itoa (n : Int) : Option ByteArray := if -9223372036854775808 ≤ n ∧ n ≤ 9223372036854775807 then some ⟨(Lib.itoa n).toArray⟩ else none
end Go.G
