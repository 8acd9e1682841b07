/- XM: the models of the library's functions that are met by contract. No program in sight. -/
import Derived.Test.YtgjbeigeejhfkaaDoorJ29
import Derived.Lib.Bytealg
import Derived.Lib.SlTrimSet
namespace Go.G
open Go Go.J
def m_strings_IndexByte (s : ByteArray) (c : Int) : Option Int := some (Lib.indexByte s.data.toList c.toNat.toUInt8)
def m_strings_Trim (s c : ByteArray) : Option ByteArray :=
  if s.size ≤ 9223372036854775807 ∧ c.size < 4294967281 ∧ c.data.toList.all (fun b => decide (b.toNat < 128)) = true then some ⟨(Lib.trimS s.data.toList c.data.toList).toArray⟩ else none
end Go.G
