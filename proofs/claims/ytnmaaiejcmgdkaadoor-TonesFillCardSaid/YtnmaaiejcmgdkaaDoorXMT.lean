/- XMT: the models of the library's functions that are met by contract (for the tones' rows). No program in sight. -/
import Derived.Test.YtnmaaiejcmgdkaaDoorJ19
import Derived.Lib.ValidU
namespace Go.G
open Go Go.J
noncomputable def m_utf8_ValidString (s : ByteArray) : Option Bool := if s.size ≤ 9223372036854775807 then some (Lib.validD s.data.toList) else none
end Go.G
