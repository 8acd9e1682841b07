/- LSh: models that this row does not reach, as laws that serve other rows too name them. Written by program. -/
import Derived.Test.YtkeieikpobfapaaGreatDoorM
import Derived.Lib.Join
namespace Go.G
open Go Go.J
set_option linter.unusedVariables false
noncomputable section
structure TAway where
 Singer:ByteArray
 Time:TWindow
 deriving DecidableEq,Inhabited
end
end Go.G
