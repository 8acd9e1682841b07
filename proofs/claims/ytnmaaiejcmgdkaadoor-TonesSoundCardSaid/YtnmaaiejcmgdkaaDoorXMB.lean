/- XMB: the models of the library's functions that are met by contract (for TonesSound). No program in sight. -/
import Derived.Test.YtnmaaiejcmgdkaaDoorJ21
import Derived.Lib.ValidU
namespace Go.G
open Go Go.J
noncomputable def m_utf8_ValidString (s : ByteArray) : Option Bool := if s.size ≤ 9223372036854775807 then some (Lib.validD s.data.toList) else none
def m_bWriteString (c t : ByteArray) : Option ByteArray := if c.size + t.size ≤ 140737488355328 then some (c ++ t) else none
end Go.G
