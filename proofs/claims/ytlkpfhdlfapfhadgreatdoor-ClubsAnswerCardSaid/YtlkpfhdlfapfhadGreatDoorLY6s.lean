/- LY6s: since when somebody is a member. In plain Lean, no program in sight. -/
import Derived.Test.YtlkpfhdlfapfhadGreatDoorLY6n
namespace Go.G
open Go Go.J
set_option linter.unusedSimpArgs false
def az2 (st:ab7) (who:ByteArray):Int × Bool:=match (A5 st who).getLast? with | some s=>if s.till<0 then (s.since,true) else (0,false) | none=>(0,false)
end Go.G
