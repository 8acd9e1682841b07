/- LSh: models that this row does not reach, as laws that serve other rows too name them. Written by program. -/
import Derived.Test.YtadlgemefhfejacGreatDoorM
namespace Go.G
open Go Go.J
set_option linter.unusedVariables false
noncomputable section
def m_gleeref2_Rising_l1 (a0:(List ByteArray)) (i1:Nat) (x2:ByteArray) (u4:Unit):Option (Flow Unit Int) :=
 (m_gleeref2_Key x2).bind fun y8=>ifB (!y8) (some (.ret 5)) ((ifB (decide ((i1:Int)>0)) ((getI a0 (w64 ((i1:Int) - 1))).bind fun e12=>some (.inl (Op.bytesLess x2.toList e12.toList||x2.toList==e12.toList))) (some (.inl false)):Option (Bool ⊕ (Flow Unit Int))).bind fun k11=>Sum.fin k11 fun u9=>ifB u9 (some (.ret 7)) (some (.nxt ())))
def m_gleeref2_Rising (a0:(List ByteArray)):Option Int :=
 (rangeM (m_gleeref2_Rising_l1 a0) 0 a0 ()).bind fun f7=>Flow.fin f7 fun u4=>some 0
end
end Go.G
