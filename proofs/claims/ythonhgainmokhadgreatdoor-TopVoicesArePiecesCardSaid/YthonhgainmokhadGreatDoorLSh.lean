/- LSh: models that this row does not reach, as laws that serve other rows too name them. Written by program. -/
import Derived.Test.YthonhgainmokhadGreatDoorM
namespace Go.G
open Go Go.J
set_option linter.unusedVariables false
noncomputable section
def m_gleeref2_TonesOf_l1 (a0 : TChord) (i4 : Nat) (x5 : Int) (u8 : (List Int)) : Option (Flow (List Int) (List Int)) :=
 (appM 8 u8 [(w64 (a0.Root + x5)).tmod 12]).bind fun q14 => some (.nxt q14)
def m_gleeref2_TonesOf (a0 : TChord) : Option (List Int) :=
 (m_gleeref2_kindTones a0.Kind).bind fun y2 => (rangeM (m_gleeref2_TonesOf_l1 a0) 0 y2 []).bind fun f11 => Flow.fin f11 fun u8 => (sliceI u8 a0.Turn (u8.length : Int)).bind fun q17 => (sliceI u8 0 a0.Turn).bind fun q18 => (appM 8 q17 q18).bind fun q19 => some q19
end
end Go.G
