/- LSh: models that this row does not reach, as laws that serve other rows too name them. Written by program. -/
import Derived.Test.YtkeieikpobfapabGreatDoorM
import Derived.Lib.Join
namespace Go.G
open Go Go.J
set_option linter.unusedVariables false
noncomputable section
noncomputable def m_slices_Compact_string_string (xs : List ByteArray) : Option (List ByteArray) := if xs.length ≤ 9223372036854775807 then some ((Lib.compact (xs.map bytesOf)).map ofBytes) else none
def m_gleeref2_thereAt_l1 (a1 : ByteArray) (a2 : Int) (i1 : Nat) (x2 : TCame) (u4 : Bool) : Option (Flow Bool Bool) :=
 (ifB (x2.Singer.toList == a1.toList) (some (.inl (decide (x2.At ≤ a2)))) (some (.inl false)) : Option (Bool ⊕ (Flow Bool Bool))).bind fun k11 => Sum.fin k11 fun u9 => ifB u9 (some (.nxt (!x2.Left))) (some (.nxt u4))
def m_gleeref2_thereAt (a0 : (List TCame)) (a1 : ByteArray) (a2 : Int) : Option Bool :=
 (rangeM (m_gleeref2_thereAt_l1 a1 a2) 0 a0 false).bind fun f7 => Flow.fin f7 fun u4 => some u4
def m_gleeref2_ThereOf_l1 (a0 : (List TCame)) (a1 : Int) (i1 : Nat) (x2 : TCame) (u5 : (List ByteArray)) : Option (Flow (List ByteArray) (List ByteArray)) :=
 (m_gleeref2_thereAt a0 x2.Singer a1).bind fun y11 => ifB y11 ((appM 16 u5 [x2.Singer]).bind fun q13 => some (.nxt q13)) (some (.nxt u5))
def m_gleeref2_ThereOf (a0 : (List TCame)) (a1 : Int) : Option (List ByteArray) :=
 (rangeM (m_gleeref2_ThereOf_l1 a0 a1) 0 a0 []).bind fun f8 => Flow.fin f8 fun u5 => (m_slices_Sort_string_string u5).bind fun y16 => (m_slices_Compact_string_string y16).bind fun y17 => some y17
structure TSlot where
 Key : ByteArray
 Room : ByteArray
 Piece : ByteArray
 Parts : (List ByteArray)
 Time : TWindow
 deriving DecidableEq, Inhabited
structure TSings where
 Singer : ByteArray
 Piece : ByteArray
 Part : ByteArray
 deriving DecidableEq, Inhabited
structure TWish where
 Piece : ByteArray
 Need : Int
 deriving DecidableEq, Inhabited
def m_rehearse_slotFault_1 (a0 : TSlot) (a1_0 : ByteArray) (a1_1 : ByteArray) (a1_2 : ByteArray) (a1_3 : (List ByteArray)) (a1_4 : Int) (a1_5 : Int) : Option Bool :=
 some (a0.Key.toList == a1_0.toList)
def m_slices_IndexFunc_api_Slot_api_Slot__rehearse_slotFault_1_l1 (a1_c0_0 : ByteArray) (a1_c0_1 : ByteArray) (a1_c0_2 : ByteArray) (a1_c0_3 : (List ByteArray)) (a1_c0_4 : Int) (a1_c0_5 : Int) (i1 : Nat) (x2 : TSlot) (u4 : Unit) : Option (Flow Unit Int) :=
 (m_rehearse_slotFault_1 x2 a1_c0_0 a1_c0_1 a1_c0_2 a1_c0_3 a1_c0_4 a1_c0_5).bind fun y8 => ifB y8 (some (.ret (i1 : Int))) (some (.nxt ()))
def m_slices_IndexFunc_api_Slot_api_Slot__rehearse_slotFault_1 (a0 : (List TSlot)) (a1_c0_0 : ByteArray) (a1_c0_1 : ByteArray) (a1_c0_2 : ByteArray) (a1_c0_3 : (List ByteArray)) (a1_c0_4 : Int) (a1_c0_5 : Int) : Option Int :=
 (rangeM (m_slices_IndexFunc_api_Slot_api_Slot__rehearse_slotFault_1_l1 a1_c0_0 a1_c0_1 a1_c0_2 a1_c0_3 a1_c0_4 a1_c0_5) 0 a0 ()).bind fun f7 => Flow.fin f7 fun u4 => some (-1)
def m_slices_ContainsFunc_api_Slot_api_Slot__rehearse_slotFault_1 (a0 : (List TSlot)) (a1_c0_0 : ByteArray) (a1_c0_1 : ByteArray) (a1_c0_2 : ByteArray) (a1_c0_3 : (List ByteArray)) (a1_c0_4 : Int) (a1_c0_5 : Int) : Option Bool :=
 (m_slices_IndexFunc_api_Slot_api_Slot__rehearse_slotFault_1 a0 a1_c0_0 a1_c0_1 a1_c0_2 a1_c0_3 a1_c0_4 a1_c0_5).bind fun y1 => some (decide (y1 ≥ 0))
def m_rehearse_namesFault_l1 (a0 : (List ByteArray)) (i1 : Nat) (x2 : ByteArray) (u4 : Unit) : Option (Flow Unit Int) :=
 (m_kit_IsKey x2).bind fun y8 => ifB (!y8) (some (.ret 5)) ((ifB (decide ((i1 : Int) > 0)) ((getI a0 (w64 ((i1 : Int) - 1))).bind fun e12 => some (.inl (Op.bytesLess x2.toList e12.toList || x2.toList == e12.toList))) (some (.inl false)) : Option (Bool ⊕ (Flow Unit Int))).bind fun k11 => Sum.fin k11 fun u9 => ifB u9 (some (.ret 7)) (some (.nxt ())))
def m_rehearse_namesFault (a0 : (List ByteArray)) : Option Int :=
 (rangeM (m_rehearse_namesFault_l1 a0) 0 a0 ()).bind fun f7 => Flow.fin f7 fun u4 => some 0
def m_kit_IsTime (a0 : TWindow) : Option Bool :=
 ifB (decide (a0.From ≥ 0)) (ifB (decide (a0.From < a0.To)) (some (decide (a0.To ≤ 345686400000))) (some false)) (some false)
def m_rehearse_slotFault (a0 : (List TSlot)) (a1 : Int) : Option Int :=
 (getI a0 a1).bind fun e1 => ((m_kit_IsKey e1.Key).bind fun y6 => ifB (!y6) (some (.inl true)) ((m_kit_IsKey e1.Room).bind fun y7 => ifB (!y7) (some (.inl true)) ((m_kit_IsKey e1.Piece).bind fun y8 => some (.inl (!y8)))) : Option (Bool ⊕ Int)).bind fun k5 => Sum.fin k5 fun u3 => ifB u3 (some 5) ((sliceI a0 0 a1).bind fun q9 => (m_slices_ContainsFunc_api_Slot_api_Slot__rehearse_slotFault_1 q9 e1.Key e1.Room e1.Piece e1.Parts e1.Time.From e1.Time.To).bind fun y10 => ifB y10 (some 6) (ifB (decide ((e1.Parts.length : Int) > 12)) (some 2) ((m_rehearse_namesFault e1.Parts).bind fun y11 => ifB (y11 != 0) (some y11) ((m_kit_IsTime e1.Time).bind fun y12 => ifB (!y12) (some 1) ((ifB (decide (a1 > 0)) ((getI a0 (w64 (a1 - 1))).bind fun e16 => (m_cmp_Compare_int e16.Time.From e1.Time.From).bind fun y17 => (getI a0 (w64 (a1 - 1))).bind fun e18 => (m_strings_Compare e18.Key e1.Key).bind fun y19 => (m_cmp_Or_int [y17, y19]).bind fun y21 => some (.inl (decide (y21 ≥ 0)))) (some (.inl false)) : Option (Bool ⊕ Int)).bind fun k15 => Sum.fin k15 fun u13 => ifB u13 (some 7) (some 0))))))
def m_rehearse_meet (a0 : TWindow) (a1 : TWindow) : Option Bool :=
 ifB (decide (a0.From < a1.To)) (some (decide (a1.From < a0.To))) (some false)
def m_rehearse_CheckSlots_l3 (x10 : TSlot) (i18 : Nat) (x19 : TSlot) (u21 : Unit) : Option (Flow Unit (Flow Unit Int)) :=
 (ifB (x10.Room.toList == x19.Room.toList) ((m_rehearse_meet x10.Time x19.Time).bind fun y29 => some (.inl y29)) (some (.inl false)) : Option (Bool ⊕ (Flow Unit (Flow Unit Int)))).bind fun k28 => Sum.fin k28 fun u26 => ifB u26 (some (.ret (.ret 13))) (some (.nxt ()))
def m_rehearse_CheckSlots_l2 (a0 : (List TSlot)) (i9 : Nat) (x10 : TSlot) (u12 : Unit) : Option (Flow Unit Int) :=
 (sliceI a0 0 (i9 : Int)).bind fun q17 => (rangeM (m_rehearse_CheckSlots_l3 x10) 0 q17 ()).bind fun f24 => Flow.fin f24 fun u21 => some (.nxt ())
def m_rehearse_CheckSlots_l1 (a0 : (List TSlot)) (i1 : Nat) (x2 : TSlot) (u4 : Unit) : Option (Flow Unit Int) :=
 (m_rehearse_slotFault a0 (i1 : Int)).bind fun y8 => ifB (y8 != 0) (some (.ret y8)) (some (.nxt ()))
def m_rehearse_CheckSlots (a0 : (List TSlot)) : Option Int :=
 ifB (decide ((a0.length : Int) > 300)) (some 2) ((rangeM (m_rehearse_CheckSlots_l1 a0) 0 a0 ()).bind fun f7 => Flow.fin f7 fun u4 => (rangeM (m_rehearse_CheckSlots_l2 a0) 0 a0 ()).bind fun f15 => Flow.fin f15 fun u12 => some 0)
def m_gleeref2_Rising_l1 (a0 : (List ByteArray)) (i1 : Nat) (x2 : ByteArray) (u4 : Unit) : Option (Flow Unit Int) :=
 (m_gleeref2_Key x2).bind fun y8 => ifB (!y8) (some (.ret 5)) ((ifB (decide ((i1 : Int) > 0)) ((getI a0 (w64 ((i1 : Int) - 1))).bind fun e12 => some (.inl (Op.bytesLess x2.toList e12.toList || x2.toList == e12.toList))) (some (.inl false)) : Option (Bool ⊕ (Flow Unit Int))).bind fun k11 => Sum.fin k11 fun u9 => ifB u9 (some (.ret 7)) (some (.nxt ())))
def m_gleeref2_Rising (a0 : (List ByteArray)) : Option Int :=
 (rangeM (m_gleeref2_Rising_l1 a0) 0 a0 ()).bind fun f7 => Flow.fin f7 fun u4 => some 0
structure TAway where
 Singer : ByteArray
 Time : TWindow
 deriving DecidableEq, Inhabited
end
end Go.G
