/- The models. Written by program. -/
import Derived.Test.YtlhfimbpjdfdgaaGreatDoorXM
namespace Go.G
open Go Go.J
set_option linter.unusedVariables false
noncomputable section
structure Tgleemake_Stream where
  L : (List Int)
  at_ : Int
  deriving DecidableEq, Inhabited
structure TWindow where
  From : Int
  To : Int
  deriving DecidableEq, Inhabited
structure TSlot where
  Key : ByteArray
  Room : ByteArray
  Piece : ByteArray
  Parts : (List ByteArray)
  Time : TWindow
  deriving DecidableEq, Inhabited
structure TCame where
  At : Int
  Singer : ByteArray
  Left : Bool
  deriving DecidableEq, Inhabited
def m_gleemake_Below (a0 : Int) (a1 : Int) : Option Int :=
  ifB (decide (a1 < 1)) (some 0) ((remM a0 a1).bind fun z1 => ifB (decide (z1 < 0)) (some (w64 (z1 + a1))) (some z1))
def m_gleemake_Stream_Next (a0_0 : (List Int)) (a0_1 : Int) (a1 : Int) : Option (Int × Int) :=
  ifB ((a0_0.length : Int) == 0) ((m_gleemake_Below (w64 ((w64 (a0_1 + 1)) * 7919)) a1).bind fun y1 => some (y1, w64 (a0_1 + 1))) ((remM (w64 ((w64 (a0_1 + 1)) - 1)) (a0_0.length : Int)).bind fun z2 => (quoM (w64 ((w64 (a0_1 + 1)) - 1)) (a0_0.length : Int)).bind fun z3 => (getI a0_0 z2).bind fun e4 => (m_gleemake_Below e4 1073741824).bind fun y5 => (m_gleemake_Below (w64 (y5 + (w64 (z3 * (w64 (7919 + z2)))))) a1).bind fun y6 => some (y6, w64 (a0_1 + 1)))
def m_gleemake_Stream_Flip (a0_0 : (List Int)) (a0_1 : Int) (a1 : Int) : Option (Bool × Int) :=
  (m_gleemake_Stream_Next a0_0 a0_1 a1).bind fun y1 => some (y1.1 == 0, y1.2)
def m_gleemake_Stream_Pick (a0_0 : (List Int)) (a0_1 : Int) (a1 : (List Int)) : Option (Int × Int) :=
  (m_gleemake_Stream_Next a0_0 a0_1 (a1.length : Int)).bind fun y1 => (getI a1 y1.1).bind fun e2 => some (e2, y1.2)
def m_gleemake_Stream_Some (a0_0 : (List Int)) (a0_1 : Int) (a1 : (List ByteArray)) : Option (ByteArray × Int) :=
  (m_gleemake_Stream_Next a0_0 a0_1 (a1.length : Int)).bind fun y1 => (getI a1 y1.1).bind fun e2 => some (e2, y1.2)
def m_bits_Len (a0 : Int) : Option Int :=
  (m_bits_Len64 a0).bind fun y1 => some y1
def m_cmp_isNaN_int (a0 : Int) : Option Bool :=
  some (a0 != a0)
def m_cmp_Compare_int (a0 : Int) (a1 : Int) : Option Int :=
  (m_cmp_isNaN_int a0).bind fun y1 => (m_cmp_isNaN_int a1).bind fun y2 => ifB y1 (ifB y2 (some 0) (some (-1))) (ifB y2 (some 1) (ifB (decide (a0 < a1)) (some (-1)) (ifB (decide (a0 > a1)) (some 1) (some 0))))
def m_slices_Compare_int_int_l1 (a1 : (List Int)) (i1 : Nat) (x2 : Int) (u4 : Unit) : Option (Flow Unit Int) :=
  ifB (decide ((i1 : Int) ≥ (a1.length : Int))) (some (.ret 1)) ((getI a1 (i1 : Int)).bind fun e8 => (m_cmp_Compare_int x2 e8).bind fun y9 => ifB (y9 != 0) (some (.ret y9)) (some (.nxt ())))
def m_slices_Compare_int_int (a0 : (List Int)) (a1 : (List Int)) : Option Int :=
  (rangeM (m_slices_Compare_int_int_l1 a1) 0 a0 ()).bind fun f7 => Flow.fin f7 fun u4 => ifB (decide ((a0.length : Int) < (a1.length : Int))) (some (-1)) (some 0)
def m_cmp_isNaN_string (a0 : ByteArray) : Option Bool :=
  some (!(a0.toList == a0.toList))
def m_cmp_Compare_string (a0 : ByteArray) (a1 : ByteArray) : Option Int :=
  (m_cmp_isNaN_string a0).bind fun y1 => (m_cmp_isNaN_string a1).bind fun y2 => ifB y1 (ifB y2 (some 0) (some (-1))) (ifB y2 (some 1) (ifB (Op.bytesLess a0.toList a1.toList) (some (-1)) (ifB (!(Op.bytesLess a0.toList a1.toList || a0.toList == a1.toList)) (some 1) (some 0))))
def m_slices_Compare_string_string_l1 (a1 : (List ByteArray)) (i1 : Nat) (x2 : ByteArray) (u4 : Unit) : Option (Flow Unit Int) :=
  ifB (decide ((i1 : Int) ≥ (a1.length : Int))) (some (.ret 1)) ((getI a1 (i1 : Int)).bind fun e8 => (m_cmp_Compare_string x2 e8).bind fun y9 => ifB (y9 != 0) (some (.ret y9)) (some (.nxt ())))
def m_slices_Compare_string_string (a0 : (List ByteArray)) (a1 : (List ByteArray)) : Option Int :=
  (rangeM (m_slices_Compare_string_string_l1 a1) 0 a0 ()).bind fun f7 => Flow.fin f7 fun u4 => ifB (decide ((a0.length : Int) < (a1.length : Int))) (some (-1)) (some 0)
def m_gleemake_Stream_RightSlots_1 (a0 : TSlot) (a1 : TSlot) : Option Int :=
  (m_slices_Compare_int_int [a0.Time.From] [a1.Time.From]).bind fun y5 => ifB (y5 != 0) (some y5) ((m_slices_Compare_string_string [a0.Key] [a1.Key]).bind fun y8 => some y8)
def m_slices_insertionSortCmpFunc_api_Slot__gleemake_Stream_RightSlots_1_l2 (a1 : Int) (u5 : (Int × (List TSlot))) : Option (Flow (Int × (List TSlot)) (Flow (Int × (List TSlot)) (List TSlot))) :=
  ifB (decide (u5.1 > a1)) ((getI u5.2 u5.1).bind fun e9 => (getI u5.2 (w64 (u5.1 - 1))).bind fun e10 => (m_gleemake_Stream_RightSlots_1 e9 e10).bind fun y11 => ifB (decide (y11 < 0)) ((getI u5.2 (w64 (u5.1 - 1))).bind fun e12 => (getI u5.2 u5.1).bind fun e13 => (getI u5.2 u5.1).bind fun e14 => (getI (u5.2.set u5.1.toNat e12) (w64 (u5.1 - 1))).bind fun e16 => some (.nxt (w64 (u5.1 - 1), ((u5.2.set u5.1.toNat e12).set ((w64 (u5.1 - 1)).toNat) e13)))) (some (.brk (u5.1, u5.2)))) (some (.brk (u5.1, u5.2)))
def m_slices_insertionSortCmpFunc_api_Slot__gleemake_Stream_RightSlots_1_l1 (a1 : Int) (a2 : Int) (u1 : (Int × (List TSlot))) : Option (Flow (Int × (List TSlot)) (List TSlot)) :=
  ifB (decide (u1.1 < a2)) ((loopM (m_slices_insertionSortCmpFunc_api_Slot__gleemake_Stream_RightSlots_1_l2 a1) (u1.1, u1.2)).bind fun f8 => Flow.fin f8 fun u5 => some (.nxt (w64 (u1.1 + 1), u5.2))) (some (.brk (u1.1, u1.2)))
def m_slices_insertionSortCmpFunc_api_Slot__gleemake_Stream_RightSlots_1 (a0 : (List TSlot)) (a1 : Int) (a2 : Int) : Option (List TSlot) :=
  (loopM (m_slices_insertionSortCmpFunc_api_Slot__gleemake_Stream_RightSlots_1_l1 a1 a2) (w64 (a1 + 1), a0)).bind fun f4 => Flow.fin f4 fun u1 => some u1.2
def m_slices_pdqsortCmpFunc_api_Slot__gleemake_Stream_RightSlots_1_l1 (a0 : (List TSlot)) (a1 : Int) (a2 : Int) (a3 : Int) (u1 : Unit) : Option (Flow Unit (List TSlot)) :=
  ifB (decide ((w64 (a2 - a1)) ≤ 12)) ((m_slices_insertionSortCmpFunc_api_Slot__gleemake_Stream_RightSlots_1 a0 a1 a2).bind fun y5 => some (.ret y5)) (ifB (a3 == 0) (none) ((ifB (!true) (none) (some (.inl ())) : Option (Unit ⊕ (Flow Unit (List TSlot)))).bind fun k9 => Sum.fin k9 fun u7 => none))
def m_slices_pdqsortCmpFunc_api_Slot__gleemake_Stream_RightSlots_1 (a0 : (List TSlot)) (a1 : Int) (a2 : Int) (a3 : Int) : Option (List TSlot) :=
  (loopM (m_slices_pdqsortCmpFunc_api_Slot__gleemake_Stream_RightSlots_1_l1 a0 a1 a2 a3) ()).bind fun f4 => Flow.fin f4 fun u1 => some a0
def m_slices_SortFunc_api_Slot_api_Slot__gleemake_Stream_RightSlots_1 (a0 : (List TSlot)) : Option (List TSlot) :=
  (m_bits_Len (IntKind.wrap .u64 (a0.length : Int))).bind fun y1 => (m_slices_pdqsortCmpFunc_api_Slot__gleemake_Stream_RightSlots_1 a0 0 (a0.length : Int) y1).bind fun y2 => some y2
def m_gleemake_Stream_RightSlots_l2 (a0_0 : (List Int)) (i26 : Nat) (x27 : ByteArray) (u30 : (Int × (List ByteArray))) : Option (Flow (Int × (List ByteArray)) (Flow (Int × Int × (List (ByteArray × Int)) × (List TSlot)) ((List TSlot) × Int))) :=
  (m_gleemake_Stream_Flip a0_0 u30.1 3).bind fun y35 => ifB y35.1 ((appM 16 u30.2 [x27]).bind fun q37 => some (.nxt (y35.2, q37))) (some (.nxt (y35.2, u30.2)))
def m_gleemake_Stream_RightSlots_l1 (a0_0 : (List Int)) (i4 : Nat) (x5 : ByteArray) (u8 : (Int × Int × (List (ByteArray × Int)) × (List TSlot))) : Option (Flow (Int × Int × (List (ByteArray × Int)) × (List TSlot)) ((List TSlot) × Int)) :=
  (m_gleemake_Stream_Flip a0_0 u8.2.1 6).bind fun y13 => ifB y13.1 (some (.nxt (u8.1, y13.2, u8.2.2.1, u8.2.2.2))) ((m_gleemake_Stream_Pick a0_0 y13.2 [0, 10, 40]).bind fun y15 => (m_gleemake_Stream_Some a0_0 y15.2 [(ByteArray.mk [104, 97, 108, 108].toArray), (ByteArray.mk [104, 97, 108, 108].toArray), (ByteArray.mk [99, 101, 108, 108, 97, 114].toArray)]).bind fun y17 => (m_gleemake_Stream_Some a0_0 y17.2 [(ByteArray.mk [103, 108, 111, 114, 105, 97].toArray), (ByteArray.mk [107, 121, 114, 105, 101].toArray), (ByteArray.mk [103, 108, 111, 114, 105, 97].toArray)]).bind fun y19 => (m_gleemake_Stream_Pick a0_0 y19.2 [10, 30, 60]).bind fun y22 => (rangeM (m_gleemake_Stream_RightSlots_l2 a0_0) 0 [(ByteArray.mk [97, 108, 116, 111].toArray), (ByteArray.mk [98, 97, 115, 115].toArray)] (y22.2, [])).bind fun f33 => Flow.fin f33 fun u30 => (appM 88 u8.2.2.2 [(TSlot.mk x5 y17.1 y19.1 u30.2 (TWindow.mk (max (w64 (u8.1 + y15.1)) ((lkM u8.2.2.1 y17.1).getD 0)) (w64 ((max (w64 (u8.1 + y15.1)) ((lkM u8.2.2.1 y17.1).getD 0)) + y22.1))))]).bind fun q41 => some (.nxt (max (w64 (u8.1 + y15.1)) ((lkM u8.2.2.1 y17.1).getD 0), u30.1, putM u8.2.2.1 y17.1 (w64 ((max (w64 (u8.1 + y15.1)) ((lkM u8.2.2.1 y17.1).getD 0)) + y22.1)), q41)))
def m_gleemake_Stream_RightSlots (a0_0 : (List Int)) (a0_1 : Int) (a1 : Int) : Option ((List TSlot) × Int) :=
  (sliceI [(ByteArray.mk [115, 98].toArray), (ByteArray.mk [115, 97].toArray), (ByteArray.mk [115, 99].toArray), (ByteArray.mk [115, 100].toArray), (ByteArray.mk [115, 101].toArray)] 0 a1).bind fun q3 => (rangeM (m_gleemake_Stream_RightSlots_l1 a0_0) 0 q3 (0, a0_1, [], [])).bind fun f11 => Flow.fin f11 fun u8 => (m_slices_SortFunc_api_Slot_api_Slot__gleemake_Stream_RightSlots_1 u8.2.2.2).bind fun y45 => some (y45, u8.2.1)
def m_slices_Clone_string_string (a0 : (List ByteArray)) : Option (List ByteArray) :=
  (appM 16 ([] : List ByteArray) a0).bind fun q3 => some q3
def m_gleemake_Stream_Range (a0_0 : (List Int)) (a0_1 : Int) (a1 : Int) (a2 : Int) : Option (Int × Int) :=
  ifB (decide (a2 < a1)) (some (a1, a0_1)) ((m_gleemake_Stream_Next a0_0 a0_1 (w64 ((w64 (a2 - a1)) + 1))).bind fun y1 => some (w64 (a1 + y1.1), y1.2))
def m_gleemake_Stream_Odd (a0_0 : (List Int)) (a0_1 : Int) (a1 : Int) (a2 : Int) : Option (Int × Int) :=
  (m_gleemake_Stream_Flip a0_0 a0_1 12).bind fun y1 => ifB y1.1 ((m_gleemake_Stream_Pick a0_0 y1.2 [w64 (a1 - 1), w64 (a2 + 1), a1, a2, (-1099511627776), 1099511627776]).bind fun y3 => some (y3.1, y3.2)) ((m_gleemake_Stream_Range a0_0 y1.2 a1 a2).bind fun y4 => some (y4.1, y4.2))
def m_gleemake_Stream_Slots (a0_0 : (List Int)) (a0_1 : Int) (a1 : Int) : Option ((List TSlot) × Int) :=
  (m_gleemake_Stream_RightSlots a0_0 a0_1 a1).bind fun y1 => (ifB (decide ((y1.1.length : Int) > 0)) ((m_gleemake_Stream_Flip a0_0 y1.2 12).bind fun y7 => some (.inl (y7.1, y7.2))) (some (.inl (false, y1.2))) : Option ((Bool × Int) ⊕ ((List TSlot) × Int))).bind fun k6 => Sum.fin k6 fun u4 => ifB u4.1 ((m_gleemake_Stream_Next a0_0 u4.2 (y1.1.length : Int)).bind fun y8 => (getI y1.1 y8.1).bind fun e9 => (m_gleemake_Stream_Next a0_0 y8.2 3).bind fun y10 => ifB (y10.1 == 0) ((m_gleemake_Stream_Some a0_0 y10.2 [e9.Key, ByteArray.empty, (ByteArray.mk [115, 97].toArray)]).bind fun y12 => (m_gleemake_Stream_Some a0_0 y12.2 [e9.Room, (ByteArray.mk [99, 101, 108, 108, 97, 114].toArray)]).bind fun y14 => (m_gleemake_Stream_Some a0_0 y14.2 [e9.Piece, (ByteArray.mk [65].toArray)]).bind fun y16 => some ((((y1.1.set y8.1.toNat (TSlot.mk y12.1 e9.Room e9.Piece e9.Parts e9.Time)).set y8.1.toNat (TSlot.mk y12.1 y14.1 e9.Piece e9.Parts e9.Time)).set y8.1.toNat (TSlot.mk y12.1 y14.1 y16.1 e9.Parts e9.Time)), y16.2)) (ifB (y10.1 == 1) ((m_slices_Clone_string_string e9.Parts).bind fun y93 => (m_gleemake_Stream_Some a0_0 y10.2 [(ByteArray.mk [122, 122].toArray), ByteArray.empty, (ByteArray.mk [97, 108, 116, 111].toArray)]).bind fun y96 => (appM 16 y93 [y96.1]).bind fun q98 => some ((y1.1.set y8.1.toNat (TSlot.mk e9.Key e9.Room e9.Piece q98 e9.Time)), y96.2)) ((m_gleemake_Stream_Odd a0_0 y10.2 0 100).bind fun y101 => (m_gleemake_Stream_Odd a0_0 y101.2 1 200).bind fun y102 => some ((y1.1.set y8.1.toNat (TSlot.mk e9.Key e9.Room e9.Piece e9.Parts (TWindow.mk y101.1 y102.1))), y102.2)))) (some (y1.1, u4.2))
def m_gleeref2_list (a0 : (List ByteArray)) : Option ByteArray :=
  ifB ((a0.length : Int) == 0) (some (ByteArray.mk [45].toArray)) ((m_strings_Join a0 (ByteArray.mk [44].toArray)).bind fun y1 => some y1)
def m_gleeref2_Numbers_l1  (i1 : Nat) (x2 : Int) (u5 : (List ByteArray)) : Option (Flow (List ByteArray) ByteArray) :=
  (m_strconv_Itoa x2).bind fun y10 => (appM 16 u5 [y10]).bind fun q12 => some (.nxt q12)
def m_gleeref2_Numbers (a0 : (List Int)) : Option ByteArray :=
  (rangeM m_gleeref2_Numbers_l1 0 a0 []).bind fun f8 => Flow.fin f8 fun u5 => (m_strings_Join u5 (ByteArray.mk [32].toArray)).bind fun y15 => some y15
def m_gleeref2_SlotLines_l1  (i1 : Nat) (x2 : TSlot) (u4 : ByteArray) : Option (Flow ByteArray ByteArray) :=
  (catM x2.Key (ByteArray.mk [32].toArray)).bind fun c9 => (catM c9 x2.Room).bind fun c10 => (catM c10 (ByteArray.mk [32].toArray)).bind fun c11 => (catM c11 x2.Piece).bind fun c12 => (catM c12 (ByteArray.mk [32].toArray)).bind fun c13 => (m_gleeref2_list x2.Parts).bind fun y14 => (catM c13 y14).bind fun c15 => (catM c15 (ByteArray.mk [32].toArray)).bind fun c16 => (m_gleeref2_Numbers [x2.Time.From, x2.Time.To]).bind fun y18 => (catM c16 y18).bind fun c19 => (catM c19 (ByteArray.mk [10].toArray)).bind fun c20 => (catM u4 c20).bind fun c21 => some (.nxt c21)
def m_gleeref2_SlotLines (a0 : (List TSlot)) : Option ByteArray :=
  (rangeM m_gleeref2_SlotLines_l1 0 a0 ByteArray.empty).bind fun f7 => Flow.fin f7 fun u4 => some u4
def m_gleemake_Stream_Changed (a0_0 : (List Int)) (a0_1 : Int) (a1 : ByteArray) (a2 : ByteArray) : Option (ByteArray × Int) :=
  (ifB (a1.toList == ByteArray.empty.toList) (some (.inl true)) (some (.inl (a2.toList == ByteArray.empty.toList))) : Option (Bool ⊕ (ByteArray × Int))).bind fun k3 => Sum.fin k3 fun u1 => ifB u1 (some (a2, a0_1)) ((m_gleemake_Stream_Next a0_0 a0_1 (a1.size : Int)).bind fun y4 => (m_gleemake_Stream_Next a0_0 y4.2 (a2.size : Int)).bind fun y5 => (strI a2 y5.1).bind fun c6 => (m_gleemake_Stream_Next a0_0 y5.2 3).bind fun y7 => ifB (y7.1 == 0) ((strS a1 0 y4.1).bind fun c8 => (catM c8 (Utf8.encode (IntKind.wrap .i32 c6))).bind fun c9 => (strS a1 (w64 (y4.1 + 1)) (a1.size : Int)).bind fun c10 => (catM c9 c10).bind fun c11 => some (c11, y7.2)) (ifB (y7.1 == 1) ((strS a1 0 y4.1).bind fun c12 => (catM c12 (Utf8.encode (IntKind.wrap .i32 c6))).bind fun c13 => (strS a1 y4.1 (a1.size : Int)).bind fun c14 => (catM c13 c14).bind fun c15 => some (c15, y7.2)) ((strS a1 0 y4.1).bind fun c16 => (strS a1 (w64 (y4.1 + 1)) (a1.size : Int)).bind fun c17 => (catM c16 c17).bind fun c18 => some (c18, y7.2))))
def m_gleemake_Stream_SlotText_l1 (a0_0 : (List Int)) (i7 : Nat) (x8 : Nat) (u10 : (ByteArray × Int)) : Option (Flow (ByteArray × Int) (ByteArray × Int)) :=
  (m_gleemake_Stream_Changed a0_0 u10.2 u10.1 (ByteArray.mk [32, 10, 48, 45, 57, 44, 115, 97].toArray)).bind fun y14 => some (.nxt (y14.1, y14.2))
def m_gleemake_Stream_SlotText (a0_0 : (List Int)) (a0_1 : Int) : Option (ByteArray × Int) :=
  (m_gleemake_Stream_RightSlots a0_0 a0_1 3).bind fun y1 => (m_gleeref2_SlotLines y1.1).bind fun y4 => (m_gleemake_Stream_Pick a0_0 y1.2 [0, 0, 1, 2]).bind fun y6 => (rangeI y6.1).bind fun L15 => (rangeM (m_gleemake_Stream_SlotText_l1 a0_0) 0 L15 (y4, y6.2)).bind fun f13 => Flow.fin f13 fun u10 => some (u10.1, u10.2)
def m_kit_IsKey (a0 : ByteArray) : Option Bool :=
  ifB (!(a0.toList == ByteArray.empty.toList)) (ifB (decide ((a0.size : Int) ≤ 40)) ((strI a0 0).bind fun c1 => (m_strings_IndexByte (ByteArray.mk [97, 98, 99, 100, 101, 102, 103, 104, 105, 106, 107, 108, 109, 110, 111, 112, 113, 114, 115, 116, 117, 118, 119, 120, 121, 122].toArray) c1).bind fun y2 => ifB (decide (y2 ≥ 0)) ((m_strings_Trim a0 (ByteArray.mk [97, 98, 99, 100, 101, 102, 103, 104, 105, 106, 107, 108, 109, 110, 111, 112, 113, 114, 115, 116, 117, 118, 119, 120, 121, 122, 48, 49, 50, 51, 52, 53, 54, 55, 56, 57, 45, 95].toArray)).bind fun y3 => some (y3.toList == ByteArray.empty.toList)) (some false)) (some false)) (some false)
def m_rehearse_slotFault_1 (a0 : TSlot) (a1_0 : ByteArray) (a1_1 : ByteArray) (a1_2 : ByteArray) (a1_3 : (List ByteArray)) (a1_4 : Int) (a1_5 : Int) : Option Bool :=
  some (a0.Key.toList == a1_0.toList)
def m_slices_IndexFunc_api_Slot_api_Slot__rehearse_slotFault_1_l1 (a1_c0_0 : ByteArray) (a1_c0_1 : ByteArray) (a1_c0_2 : ByteArray) (a1_c0_3 : (List ByteArray)) (a1_c0_4 : Int) (a1_c0_5 : Int) (i1 : Nat) (x2 : TSlot) (u4 : Unit) : Option (Flow Unit Int) :=
  (m_rehearse_slotFault_1 x2 a1_c0_0 a1_c0_1 a1_c0_2 a1_c0_3 a1_c0_4 a1_c0_5).bind fun y8 => ifB y8 (some (.ret (i1 : Int))) (some (.nxt ()))
def m_slices_IndexFunc_api_Slot_api_Slot__rehearse_slotFault_1 (a0 : (List TSlot)) (a1_c0_0 : ByteArray) (a1_c0_1 : ByteArray) (a1_c0_2 : ByteArray) (a1_c0_3 : (List ByteArray)) (a1_c0_4 : Int) (a1_c0_5 : Int) : Option Int :=
  (rangeM (m_slices_IndexFunc_api_Slot_api_Slot__rehearse_slotFault_1_l1 a1_c0_0 a1_c0_1 a1_c0_2 a1_c0_3 a1_c0_4 a1_c0_5) 0 a0 ()).bind fun f7 => Flow.fin f7 fun u4 => some (-1)
def m_slices_ContainsFunc_api_Slot_api_Slot__rehearse_slotFault_1 (a0 : (List TSlot)) (a1_c0_0 : ByteArray) (a1_c0_1 : ByteArray) (a1_c0_2 : ByteArray) (a1_c0_3 : (List ByteArray)) (a1_c0_4 : Int) (a1_c0_5 : Int) : Option Bool :=
  (m_slices_IndexFunc_api_Slot_api_Slot__rehearse_slotFault_1 a0 a1_c0_0 a1_c0_1 a1_c0_2 a1_c0_3 a1_c0_4 a1_c0_5).bind fun y1 => some (decide (y1 ≥ 0))
def m_rehearse_namesFault_l1 (a0 : (List ByteArray)) (i1 : Nat) (x2 : ByteArray) (u4 : Unit) : Option (Flow Unit Int) :=
  (m_kit_IsKey x2).bind fun y8 => ifB (!y8) (some (.ret 5)) ((ifB (decide ((i1 : Int) > 0)) ((getI a0 (w64 ((i1 : Int) - 1))).bind fun e12 => some (.inl (Op.bytesLess x2.toList e12.toList || x2.toList == e12.toList))) (some (.inl false)) : Option (Bool ⊕ (Flow Unit Int))).bind fun k11 => Sum.fin k11 fun u9 => ifB u9 (some (.ret 7)) (some (.nxt ())))
def m_rehearse_namesFault (a0 : (List ByteArray)) : Option Int :=
  (rangeM (m_rehearse_namesFault_l1 a0) 0 a0 ()).bind fun f7 => Flow.fin f7 fun u4 => some 0
def m_kit_IsTime (a0 : TWindow) : Option Bool :=
  ifB (decide (a0.From ≥ 0)) (ifB (decide (a0.From < a0.To)) (some (decide (a0.To ≤ 345686400000))) (some false)) (some false)
def m_cmp_Or_int_l1  (i1 : Nat) (x2 : Int) (u4 : Unit) : Option (Flow Unit Int) :=
  ifB (x2 != 0) (some (.ret x2)) (some (.nxt ()))
def m_cmp_Or_int (a0 : (List Int)) : Option Int :=
  (rangeM m_cmp_Or_int_l1 0 a0 ()).bind fun f7 => Flow.fin f7 fun u4 => some 0
def m_rehearse_slotFault (a0 : (List TSlot)) (a1 : Int) : Option Int :=
  (getI a0 a1).bind fun e1 => ((m_kit_IsKey e1.Key).bind fun y6 => ifB (!y6) (some (.inl true)) ((m_kit_IsKey e1.Room).bind fun y7 => ifB (!y7) (some (.inl true)) ((m_kit_IsKey e1.Piece).bind fun y8 => some (.inl (!y8)))) : Option (Bool ⊕ Int)).bind fun k5 => Sum.fin k5 fun u3 => ifB u3 (some 5) ((sliceI a0 0 a1).bind fun q9 => (m_slices_ContainsFunc_api_Slot_api_Slot__rehearse_slotFault_1 q9 e1.Key e1.Room e1.Piece e1.Parts e1.Time.From e1.Time.To).bind fun y10 => ifB y10 (some 6) (ifB (decide ((e1.Parts.length : Int) > 12)) (some 2) ((m_rehearse_namesFault e1.Parts).bind fun y11 => ifB (y11 != 0) (some y11) ((m_kit_IsTime e1.Time).bind fun y12 => ifB (!y12) (some 1) ((ifB (decide (a1 > 0)) ((getI a0 (w64 (a1 - 1))).bind fun e16 => (m_cmp_Compare_int e16.Time.From e1.Time.From).bind fun y17 => (getI a0 (w64 (a1 - 1))).bind fun e18 => (m_strings_Compare e18.Key e1.Key).bind fun y19 => (m_cmp_Or_int [y17, y19]).bind fun y21 => some (.inl (decide (y21 ≥ 0)))) (some (.inl false)) : Option (Bool ⊕ Int)).bind fun k15 => Sum.fin k15 fun u13 => ifB u13 (some 7) (some 0))))))
def m_rehearse_meet (a0 : TWindow) (a1 : TWindow) : Option Bool :=
  ifB (decide (a0.From < a1.To)) (some (decide (a1.From < a0.To))) (some false)
def m_rehearse_CheckSlots_l3 (x10 : TSlot) (i18 : Nat) (x19 : TSlot) (u21 : Unit) : Option (Flow Unit (Flow Unit Int)) :=
  (ifB (x10.Room.toList == x19.Room.toList) ((m_rehearse_meet x10.Time x19.Time).bind fun y29 => some (.inl y29)) (some (.inl false)) : Option (Bool ⊕ (Flow Unit (Flow Unit Int)))).bind fun k28 => Sum.fin k28 fun u26 => ifB u26 (some (.ret (.ret 13))) (some (.nxt ()))
def m_rehearse_CheckSlots_l2 (a0 : (List TSlot)) (i9 : Nat) (x10 : TSlot) (u12 : Unit) : Option (Flow Unit Int) :=
  (sliceI a0 0 (i9 : Int)).bind fun q17 => (rangeM (m_rehearse_CheckSlots_l3 x10) 0 q17 ()).bind fun f24 => Flow.fin f24 fun u21 => some (.nxt ())
def m_rehearse_CheckSlots_l1 (a0 : (List TSlot)) (i1 : Nat) (x2 : TSlot) (u4 : Unit) : Option (Flow Unit Int) :=
  (m_rehearse_slotFault a0 (i1 : Int)).bind fun y8 => ifB (y8 != 0) (some (.ret y8)) (some (.nxt ()))
def m_rehearse_CheckSlots (a0 : (List TSlot)) : Option Int :=
  ifB (decide ((a0.length : Int) > 300)) (some 2) ((rangeM (m_rehearse_CheckSlots_l1 a0) 0 a0 ()).bind fun f7 => Flow.fin f7 fun u4 => (rangeM (m_rehearse_CheckSlots_l2 a0) 0 a0 ()).bind fun f15 => Flow.fin f15 fun u12 => some 0)
def m_kit_Dash (a0 : ByteArray) : Option ByteArray :=
  ifB (a0.toList == ByteArray.empty.toList) (some (ByteArray.mk [45].toArray)) (some a0)
def m_kit_Join (a0 : (List ByteArray)) : Option ByteArray :=
  (m_strings_Join a0 (ByteArray.mk [32].toArray)).bind fun y1 => (catM y1 (ByteArray.mk [10].toArray)).bind fun c2 => some c2
def m_rehearse_Text_l1  (i3 : Nat) (x4 : TSlot) (u6 : ByteArray) : Option (Flow ByteArray (ByteArray × Int)) :=
  (m_strings_Join x4.Parts (ByteArray.mk [44].toArray)).bind fun y11 => (m_kit_Dash y11).bind fun y12 => (m_strconv_Itoa x4.Time.From).bind fun y13 => (m_strconv_Itoa x4.Time.To).bind fun y14 => (m_kit_Join [x4.Key, x4.Room, x4.Piece, y12, y13, y14]).bind fun y16 => (m_bWriteString u6 y16).bind fun y17 => some (.nxt y17)
def m_rehearse_Text (a0 : (List TSlot)) : Option (ByteArray × Int) :=
  (m_rehearse_CheckSlots a0).bind fun y1 => ifB (y1 != 0) (some (ByteArray.empty, y1)) ((rangeM m_rehearse_Text_l1 0 a0 ByteArray.empty).bind fun f9 => Flow.fin f9 fun u6 => ifB (decide ((u6.size : Int) > 200000)) (some (ByteArray.empty, 2)) (some (u6, 0)))
def m_gleeref2_in (a0 : Int) (a1 : Int) (a2 : Int) : Option Bool :=
  ifB (decide (a1 ≤ a0)) (some (decide (a0 ≤ a2))) (some false)
def m_gleeref2_only_l1 (a0 : ByteArray) (a1 : ByteArray) (i1 : Nat) (x2 : Nat) (u4 : Unit) : Option (Flow Unit Bool) :=
  (strI a0 (i1 : Int)).bind fun c8 => (m_strings_IndexByte a1 c8).bind fun y9 => ifB (decide (y9 < 0)) (some (.ret false)) (some (.nxt ()))
def m_gleeref2_only (a0 : ByteArray) (a1 : ByteArray) : Option Bool :=
  (rangeI (a0.size : Int)).bind fun L10 => (rangeM (m_gleeref2_only_l1 a0 a1) 0 L10 ()).bind fun f7 => Flow.fin f7 fun u4 => some true
def m_gleeref2_Key (a0 : ByteArray) : Option Bool :=
  (m_gleeref2_in (a0.size : Int) 1 40).bind fun y1 => ifB y1 ((strS a0 0 1).bind fun c2 => (m_gleeref2_only c2 (ByteArray.mk [97, 98, 99, 100, 101, 102, 103, 104, 105, 106, 107, 108, 109, 110, 111, 112, 113, 114, 115, 116, 117, 118, 119, 120, 121, 122].toArray)).bind fun y3 => ifB y3 ((m_gleeref2_only a0 (ByteArray.mk [97, 98, 99, 100, 101, 102, 103, 104, 105, 106, 107, 108, 109, 110, 111, 112, 113, 114, 115, 116, 117, 118, 119, 120, 121, 122, 48, 49, 50, 51, 52, 53, 54, 55, 56, 57, 45, 95].toArray)).bind fun y4 => some y4) (some false)) (some false)
def m_gleeref2_SlotAt_1 (a0 : TSlot) (a1_0 : ByteArray) : Option Bool :=
  some (a0.Key.toList == a1_0.toList)
def m_slices_IndexFunc_api_Slot_api_Slot__gleeref2_SlotAt_1_l1 (a1_c0_0 : ByteArray) (i1 : Nat) (x2 : TSlot) (u4 : Unit) : Option (Flow Unit Int) :=
  (m_gleeref2_SlotAt_1 x2 a1_c0_0).bind fun y8 => ifB y8 (some (.ret (i1 : Int))) (some (.nxt ()))
def m_slices_IndexFunc_api_Slot_api_Slot__gleeref2_SlotAt_1 (a0 : (List TSlot)) (a1_c0_0 : ByteArray) : Option Int :=
  (rangeM (m_slices_IndexFunc_api_Slot_api_Slot__gleeref2_SlotAt_1_l1 a1_c0_0) 0 a0 ()).bind fun f7 => Flow.fin f7 fun u4 => some (-1)
def m_gleeref2_SlotAt (a0 : (List TSlot)) (a1 : ByteArray) : Option Int :=
  (m_slices_IndexFunc_api_Slot_api_Slot__gleeref2_SlotAt_1 a0 a1).bind fun y2 => some y2
def m_gleeref2_Rising_l1 (a0 : (List ByteArray)) (i1 : Nat) (x2 : ByteArray) (u4 : Unit) : Option (Flow Unit Int) :=
  (m_gleeref2_Key x2).bind fun y8 => ifB (!y8) (some (.ret 5)) ((ifB (decide ((i1 : Int) > 0)) ((getI a0 (w64 ((i1 : Int) - 1))).bind fun e12 => some (.inl (Op.bytesLess x2.toList e12.toList || x2.toList == e12.toList))) (some (.inl false)) : Option (Bool ⊕ (Flow Unit Int))).bind fun k11 => Sum.fin k11 fun u9 => ifB u9 (some (.ret 7)) (some (.nxt ())))
def m_gleeref2_Rising (a0 : (List ByteArray)) : Option Int :=
  (rangeM (m_gleeref2_Rising_l1 a0) 0 a0 ()).bind fun f7 => Flow.fin f7 fun u4 => some 0
def m_gleeref2_timeFault (a0 : TWindow) : Option Int :=
  (ifB (decide (a0.From < 0)) (some (.inl true)) (ifB (decide (a0.From ≥ a0.To)) (some (.inl true)) (some (.inl (decide (a0.To > 345686400000))))) : Option (Bool ⊕ Int)).bind fun k4 => Sum.fin k4 fun u2 => ifB u2 (some 1) (some 0)
def m_gleeref2_meet (a0 : TWindow) (a1 : TWindow) : Option Int :=
  some (max 0 (w64 ((min a0.To a1.To) - (max a0.From a1.From))))
def m_gleeref2_SlotsFault_1 (a0 : TSlot) (a1_0 : ByteArray) (a1_1 : ByteArray) (a1_2 : ByteArray) (a1_3 : (List ByteArray)) (a1_4 : Int) (a1_5 : Int) : Option Bool :=
  ifB (a0.Room.toList == a1_1.toList) ((m_gleeref2_meet a0.Time (TWindow.mk a1_4 a1_5)).bind fun y2 => some (decide (y2 > 0))) (some false)
def m_slices_IndexFunc_api_Slot_api_Slot__gleeref2_SlotsFault_1_l1 (a1_c0_0 : ByteArray) (a1_c0_1 : ByteArray) (a1_c0_2 : ByteArray) (a1_c0_3 : (List ByteArray)) (a1_c0_4 : Int) (a1_c0_5 : Int) (i1 : Nat) (x2 : TSlot) (u4 : Unit) : Option (Flow Unit Int) :=
  (m_gleeref2_SlotsFault_1 x2 a1_c0_0 a1_c0_1 a1_c0_2 a1_c0_3 a1_c0_4 a1_c0_5).bind fun y8 => ifB y8 (some (.ret (i1 : Int))) (some (.nxt ()))
def m_slices_IndexFunc_api_Slot_api_Slot__gleeref2_SlotsFault_1 (a0 : (List TSlot)) (a1_c0_0 : ByteArray) (a1_c0_1 : ByteArray) (a1_c0_2 : ByteArray) (a1_c0_3 : (List ByteArray)) (a1_c0_4 : Int) (a1_c0_5 : Int) : Option Int :=
  (rangeM (m_slices_IndexFunc_api_Slot_api_Slot__gleeref2_SlotsFault_1_l1 a1_c0_0 a1_c0_1 a1_c0_2 a1_c0_3 a1_c0_4 a1_c0_5) 0 a0 ()).bind fun f7 => Flow.fin f7 fun u4 => some (-1)
def m_slices_ContainsFunc_api_Slot_api_Slot__gleeref2_SlotsFault_1 (a0 : (List TSlot)) (a1_c0_0 : ByteArray) (a1_c0_1 : ByteArray) (a1_c0_2 : ByteArray) (a1_c0_3 : (List ByteArray)) (a1_c0_4 : Int) (a1_c0_5 : Int) : Option Bool :=
  (m_slices_IndexFunc_api_Slot_api_Slot__gleeref2_SlotsFault_1 a0 a1_c0_0 a1_c0_1 a1_c0_2 a1_c0_3 a1_c0_4 a1_c0_5).bind fun y1 => some (decide (y1 ≥ 0))
def m_gleeref2_SlotsFault_l2 (a0 : (List TSlot)) (i22 : Nat) (x23 : TSlot) (u25 : Unit) : Option (Flow Unit Int) :=
  (sliceI a0 0 (i22 : Int)).bind fun q30 => (m_slices_ContainsFunc_api_Slot_api_Slot__gleeref2_SlotsFault_1 q30 x23.Key x23.Room x23.Piece x23.Parts x23.Time.From x23.Time.To).bind fun y31 => ifB y31 (some (.ret 13)) (some (.nxt ()))
def m_gleeref2_SlotsFault_l1 (a0 : (List TSlot)) (i1 : Nat) (x2 : TSlot) (u4 : Unit) : Option (Flow Unit Int) :=
  ((m_gleeref2_Key x2.Key).bind fun y12 => ifB (!y12) (some (.inl true)) ((m_gleeref2_Key x2.Room).bind fun y13 => ifB (!y13) (some (.inl true)) ((m_gleeref2_Key x2.Piece).bind fun y14 => some (.inl (!y14)))) : Option (Bool ⊕ (Flow Unit Int))).bind fun k11 => Sum.fin k11 fun u9 => ifB u9 (some (.ret 5)) ((sliceI a0 0 (i1 : Int)).bind fun q15 => (m_gleeref2_SlotAt q15 x2.Key).bind fun y16 => ifB (decide (y16 ≥ 0)) (some (.ret 6)) (ifB (decide ((x2.Parts.length : Int) > 12)) (some (.ret 2)) ((m_gleeref2_Rising x2.Parts).bind fun y17 => ifB (y17 != 0) (some (.ret y17)) ((m_gleeref2_timeFault x2.Time).bind fun y18 => ifB (y18 != 0) (some (.ret y18)) (ifB (decide ((i1 : Int) > 0)) ((getI a0 (w64 ((i1 : Int) - 1))).bind fun e19 => ifB (decide (x2.Time.From < e19.Time.From)) (some (.ret 7)) ((getI a0 (w64 ((i1 : Int) - 1))).bind fun e20 => ifB (x2.Time.From == e20.Time.From) ((getI a0 (w64 ((i1 : Int) - 1))).bind fun e21 => ifB (Op.bytesLess x2.Key.toList e21.Key.toList || x2.Key.toList == e21.Key.toList) (some (.ret 7)) (some (.nxt ()))) (some (.nxt ())))) (some (.nxt ())))))))
def m_gleeref2_SlotsFault (a0 : (List TSlot)) : Option Int :=
  ifB (decide ((a0.length : Int) > 300)) (some 2) ((rangeM (m_gleeref2_SlotsFault_l1 a0) 0 a0 ()).bind fun f7 => Flow.fin f7 fun u4 => (rangeM (m_gleeref2_SlotsFault_l2 a0) 0 a0 ()).bind fun f28 => Flow.fin f28 fun u25 => some 0)
def m_stringslite_HasSuffix (a0 : ByteArray) (a1 : ByteArray) : Option Bool :=
  ifB (decide ((a0.size : Int) ≥ (a1.size : Int))) ((strS a0 (w64 ((a0.size : Int) - (a1.size : Int))) (a0.size : Int)).bind fun c1 => some (c1.toList == a1.toList)) (some false)
def m_stringslite_CutSuffix (a0 : ByteArray) (a1 : ByteArray) : Option (ByteArray × Bool) :=
  (m_stringslite_HasSuffix a0 a1).bind fun y1 => ifB (!y1) (some (a0, false)) ((strS a0 0 (w64 ((a0.size : Int) - (a1.size : Int)))).bind fun c2 => some (c2, true))
def m_strings_CutSuffix (a0 : ByteArray) (a1 : ByteArray) : Option (ByteArray × Bool) :=
  (m_stringslite_CutSuffix a0 a1).bind fun y1 => some (y1.1, y1.2)
def m_kit_Lines (a0 : ByteArray) : Option ((List ByteArray) × Bool) :=
  ifB (a0.toList == ByteArray.empty.toList) (some ([], true)) ((m_strings_CutSuffix a0 (ByteArray.mk [10].toArray)).bind fun y2 => (m_strings_Split y2.1 (ByteArray.mk [10].toArray)).bind fun y3 => some (y3, y2.2))
def m_kit_Words_l1  (i3 : Nat) (x4 : ByteArray) (u6 : Unit) : Option (Flow Unit ((List ByteArray) × Bool)) :=
  ifB (x4.toList == ByteArray.empty.toList) (some (.ret ([], false))) (some (.nxt ()))
def m_kit_Words (a0 : ByteArray) : Option ((List ByteArray) × Bool) :=
  (m_strings_Split a0 (ByteArray.mk [32].toArray)).bind fun y1 => (rangeM m_kit_Words_l1 0 y1 ()).bind fun f9 => Flow.fin f9 fun u6 => some (y1, true)
def m_stringslite_HasPrefix (a0 : ByteArray) (a1 : ByteArray) : Option Bool :=
  ifB (decide ((a0.size : Int) ≥ (a1.size : Int))) ((strS a0 0 (a1.size : Int)).bind fun c1 => some (c1.toList == a1.toList)) (some false)
def m_stringslite_CutPrefix (a0 : ByteArray) (a1 : ByteArray) : Option (ByteArray × Bool) :=
  (m_stringslite_HasPrefix a0 a1).bind fun y1 => ifB (!y1) (some (a0, false)) ((strS a0 (a1.size : Int) (a0.size : Int)).bind fun c2 => some (c2, true))
def m_strings_CutPrefix (a0 : ByteArray) (a1 : ByteArray) : Option (ByteArray × Bool) :=
  (m_stringslite_CutPrefix a0 a1).bind fun y1 => some (y1.1, y1.2)
def m_kit_Number (a0 : ByteArray) (a1 : Int) : Option (Int × Bool) :=
  (m_strings_CutPrefix a0 (ByteArray.mk [45].toArray)).bind fun y1 => (ifB (y1.1.toList == ByteArray.empty.toList) (some (.inl true)) (ifB (decide ((y1.1.size : Int) > a1)) (some (.inl true)) ((m_strings_Trim y1.1 (ByteArray.mk [48, 49, 50, 51, 52, 53, 54, 55, 56, 57].toArray)).bind fun y5 => ifB (!(y5.toList == ByteArray.empty.toList)) (some (.inl true)) ((strI y1.1 0).bind fun c6 => ifB (c6 == 48) (ifB (decide ((y1.1.size : Int) > 1)) (some (.inl true)) (some (.inl y1.2))) (some (.inl false))))) : Option (Bool ⊕ (Int × Bool))).bind fun k4 => Sum.fin k4 fun u2 => ifB u2 (some (0, false)) ((m_strconv_Atoi y1.1).bind fun y7 => ifB y1.2 (some (w64 (0 - y7.1), true)) (some (y7.1, true)))
def m_kit_Numbers_l1  (i1 : Nat) (x2 : ByteArray) (u5 : (List Int)) : Option (Flow (List Int) ((List Int) × Bool)) :=
  (m_kit_Number x2 15).bind fun y10 => ifB (!y10.2) (some (.ret ([], false))) ((appM 8 u5 [y10.1]).bind fun q13 => some (.nxt q13))
def m_kit_Numbers (a0 : (List ByteArray)) : Option ((List Int) × Bool) :=
  (rangeM m_kit_Numbers_l1 0 a0 []).bind fun f8 => Flow.fin f8 fun u5 => some (u5, true)
def m_slices_Index_string_string_l1 (a1 : ByteArray) (i1 : Nat) (x2 : ByteArray) (u4 : Unit) : Option (Flow Unit Int) :=
  ifB (a1.toList == x2.toList) (some (.ret (i1 : Int))) (some (.nxt ()))
def m_slices_Index_string_string (a0 : (List ByteArray)) (a1 : ByteArray) : Option Int :=
  (rangeM (m_slices_Index_string_string_l1 a1) 0 a0 ()).bind fun f7 => Flow.fin f7 fun u4 => some (-1)
def m_slices_Contains_string_string (a0 : (List ByteArray)) (a1 : ByteArray) : Option Bool :=
  (m_slices_Index_string_string a0 a1).bind fun y1 => some (decide (y1 ≥ 0))
def m_rehearse_readLine (a0 : ByteArray) : Option (TSlot × Bool) :=
  (m_kit_Words a0).bind fun y2 => (ifB (!y2.2) (some (.inl true)) (some (.inl ((y2.1.length : Int) != 6))) : Option (Bool ⊕ (TSlot × Bool))).bind fun k6 => Sum.fin k6 fun u4 => ifB u4 (some ((TSlot.mk ByteArray.empty ByteArray.empty ByteArray.empty [] (TWindow.mk 0 0)), false)) ((sliceI y2.1 4 (y2.1.length : Int)).bind fun q8 => (m_kit_Numbers q8).bind fun y9 => ifB (!y9.2) (some ((TSlot.mk ByteArray.empty ByteArray.empty ByteArray.empty [] (TWindow.mk 0 0)), false)) ((getI y2.1 0).bind fun e12 => (getI y2.1 1).bind fun e13 => (getI y2.1 2).bind fun e14 => (getI y9.1 0).bind fun e15 => (getI y9.1 1).bind fun e16 => (getI y2.1 3).bind fun e18 => (ifB (!(e18.toList == (ByteArray.mk [45].toArray).toList)) ((getI y2.1 3).bind fun e23 => (m_strings_Split e23 (ByteArray.mk [44].toArray)).bind fun y24 => some (.inl y24)) (some (.inl [])) : Option ((List ByteArray) ⊕ (TSlot × Bool))).bind fun k22 => Sum.fin k22 fun u19 => (m_slices_Contains_string_string u19 ByteArray.empty).bind fun y27 => some ((TSlot.mk e12 e13 e14 u19 (TWindow.mk e15 e16)), !y27)))
def m_rehearse_Read_l1 (y2 : ((List ByteArray) × Bool)) (i4 : Nat) (x5 : ByteArray) (u8 : (List TSlot)) : Option (Flow (List TSlot) ((List TSlot) × Int × Int)) :=
  (m_rehearse_readLine x5).bind fun y13 => (ifB (!y13.2) (some (.inl true)) (ifB (!y2.2) (some (.inl ((i4 : Int) == (w64 ((y2.1.length : Int) - 1))))) (some (.inl false))) : Option (Bool ⊕ (Flow (List TSlot) ((List TSlot) × Int × Int)))).bind fun k18 => Sum.fin k18 fun u16 => ifB u16 (some (.ret ([], (i4 : Int), 9))) ((appM 88 u8 [y13.1]).bind fun q21 => some (.nxt q21))
def m_rehearse_Read (a0 : ByteArray) : Option ((List TSlot) × Int × Int) :=
  ifB (decide ((a0.size : Int) > 200000)) (some ([], 0, 2)) ((m_kit_Lines a0).bind fun y2 => (rangeM (m_rehearse_Read_l1 y2) 0 y2.1 []).bind fun f11 => Flow.fin f11 fun u8 => (m_rehearse_CheckSlots u8).bind fun y25 => ifB (y25 != 0) (some ([], 0, y25)) (some (u8, 0, 0)))
def m_stringslite_Index (a0 : ByteArray) (a1 : ByteArray) : Option Int :=
  (ifB ((a1.size : Int) == 0) (some (.inl true)) (some (.inl (a1.toList == a0.toList))) : Option (Bool ⊕ Int)).bind fun k3 => Sum.fin k3 fun u1 => ifB u1 (some 0) (ifB ((a1.size : Int) == 1) ((strI a1 0).bind fun c4 => (m_stringslite_IndexByte a0 c4).bind fun y5 => some y5) (ifB (decide ((a1.size : Int) ≥ (a0.size : Int))) (some (-1)) (none)))
def m_stringslite_Cut (a0 : ByteArray) (a1 : ByteArray) : Option (ByteArray × ByteArray × Bool) :=
  (m_stringslite_Index a0 a1).bind fun y1 => ifB (decide (y1 ≥ 0)) ((strS a0 0 y1).bind fun c2 => (strS a0 (w64 (y1 + (a1.size : Int))) (a0.size : Int)).bind fun c3 => some (c2, c3, true)) (some (a0, ByteArray.empty, false))
def m_strings_Cut (a0 : ByteArray) (a1 : ByteArray) : Option (ByteArray × ByteArray × Bool) :=
  (m_stringslite_Cut a0 a1).bind fun y1 => some (y1.1, y1.2.1, y1.2.2)
def m_gleeref2_Words (a0 : ByteArray) : Option ((List ByteArray) × Bool) :=
  (m_strings_Split a0 (ByteArray.mk [32].toArray)).bind fun y1 => (m_slices_Contains_string_string y1 ByteArray.empty).bind fun y3 => some (y1, !y3)
def m_stringslite_TrimPrefix (a0 : ByteArray) (a1 : ByteArray) : Option ByteArray :=
  (m_stringslite_HasPrefix a0 a1).bind fun y1 => ifB y1 ((strS a0 (a1.size : Int) (a0.size : Int)).bind fun c2 => some c2) (some a0)
def m_strings_TrimPrefix (a0 : ByteArray) (a1 : ByteArray) : Option ByteArray :=
  (m_stringslite_TrimPrefix a0 a1).bind fun y1 => some y1
def m_gleeref2_Number (a0 : ByteArray) (a1 : Int) : Option (Int × Bool) :=
  (m_strings_TrimPrefix a0 (ByteArray.mk [45].toArray)).bind fun y1 => (ifB (y1.toList == ByteArray.empty.toList) (some (.inl true)) (ifB (decide ((y1.size : Int) > a1)) (some (.inl true)) ((m_gleeref2_only y1 (ByteArray.mk [48, 49, 50, 51, 52, 53, 54, 55, 56, 57].toArray)).bind fun y5 => some (.inl (!y5)))) : Option (Bool ⊕ (Int × Bool))).bind fun k4 => Sum.fin k4 fun u2 => ifB u2 (some (0, false)) ((m_strconv_Atoi a0).bind fun y6 => (m_strconv_Itoa y6.1).bind fun y7 => some (y6.1, y7.toList == a0.toList))
def m_gleeref2_NumbersIn_l1 (a1 : Int) (i1 : Nat) (x2 : ByteArray) (u5 : (Bool × (List Int))) : Option (Flow (Bool × (List Int)) ((List Int) × Bool)) :=
  (m_gleeref2_Number x2 a1).bind fun y10 => (appM 8 u5.2 [y10.1]).bind fun q12 => ifB u5.1 (some (.nxt (y10.2, q12))) (some (.nxt (false, q12)))
def m_gleeref2_NumbersIn (a0 : (List ByteArray)) (a1 : Int) : Option ((List Int) × Bool) :=
  (rangeM (m_gleeref2_NumbersIn_l1 a1) 0 a0 (true, [])).bind fun f8 => Flow.fin f8 fun u5 => some (u5.2, u5.1)
def m_gleeref2_SlotsRead_1 (a0 : ByteArray) (a1_0 : (List TSlot)) : Option (Bool × (List TSlot)) :=
  (m_gleeref2_Words a0).bind fun y1 => (ifB (!y1.2) (some (.inl true)) (some (.inl ((y1.1.length : Int) != 6))) : Option (Bool ⊕ (Bool × (List TSlot)))).bind fun k5 => Sum.fin k5 fun u3 => ifB u3 (some (false, a1_0)) ((sliceI y1.1 4 (y1.1.length : Int)).bind fun q6 => (m_gleeref2_NumbersIn q6 15).bind fun y7 => (getI y1.1 0).bind fun e9 => (getI y1.1 1).bind fun e10 => (getI y1.1 2).bind fun e11 => (getI y7.1 0).bind fun e12 => (getI y7.1 1).bind fun e13 => (getI y1.1 3).bind fun e15 => (ifB (!(e15.toList == (ByteArray.mk [45].toArray).toList)) ((getI y1.1 3).bind fun e20 => (m_strings_Split e20 (ByteArray.mk [44].toArray)).bind fun y21 => some (.inl y21)) (some (.inl [])) : Option ((List ByteArray) ⊕ (Bool × (List TSlot)))).bind fun k19 => Sum.fin k19 fun u16 => (appM 88 a1_0 [(TSlot.mk e9 e10 e11 u16 (TWindow.mk e12 e13))]).bind fun q25 => ifB y7.2 ((m_slices_Contains_string_string u16 ByteArray.empty).bind fun y28 => some (!y28, q25)) (some (false, q25)))
def m_gleeref2_Lines__gleeref2_SlotsRead_1_l1  (u1 : (ByteArray × Int × (List TSlot))) : Option (Flow (ByteArray × Int × (List TSlot)) (Int × Bool × (List TSlot))) :=
  ifB (!(u1.1.toList == ByteArray.empty.toList)) ((m_strings_Cut u1.1 (ByteArray.mk [10].toArray)).bind fun y5 => (ifB (!y5.2.2) (some (.inl (true, u1.2.2))) ((m_gleeref2_SlotsRead_1 y5.1 u1.2.2).bind fun y9 => some (.inl (!y9.1, y9.2))) : Option ((Bool × (List TSlot)) ⊕ (Flow (ByteArray × Int × (List TSlot)) (Int × Bool × (List TSlot))))).bind fun k8 => Sum.fin k8 fun u6 => ifB u6.1 (some (.ret (u1.2.1, false, u6.2))) (some (.nxt (y5.2.1, w64 (u1.2.1 + 1), u6.2)))) (some (.brk (u1.1, u1.2.1, u1.2.2)))
def m_gleeref2_Lines__gleeref2_SlotsRead_1 (a0 : ByteArray) (a1_c0_0 : (List TSlot)) : Option (Int × Bool × (List TSlot)) :=
  (loopM m_gleeref2_Lines__gleeref2_SlotsRead_1_l1 (a0, 0, a1_c0_0)).bind fun f4 => Flow.fin f4 fun u1 => some (0, true, u1.2.2)
def m_gleeref2_SlotsRead (a0 : ByteArray) : Option ((List TSlot) × Int × Int) :=
  ifB (decide ((a0.size : Int) > 200000)) (some ([], 0, 2)) ((m_gleeref2_Lines__gleeref2_SlotsRead_1 a0 []).bind fun y4 => ifB (!y4.2.1) (some ([], y4.1, 9)) ((m_gleeref2_SlotsFault y4.2.2).bind fun y8 => ifB (y8 != 0) (some ([], 0, y8)) (some (y4.2.2, 0, 0))))
def m_slices_Equal_string_string_l1 (a1 : (List ByteArray)) (i1 : Nat) (x2 : ByteArray) (u4 : Unit) : Option (Flow Unit Bool) :=
  (getI a1 (i1 : Int)).bind fun e8 => ifB (!(x2.toList == e8.toList)) (some (.ret false)) (some (.nxt ()))
def m_slices_Equal_string_string (a0 : (List ByteArray)) (a1 : (List ByteArray)) : Option Bool :=
  ifB ((a0.length : Int) != (a1.length : Int)) (some false) ((rangeM (m_slices_Equal_string_string_l1 a1) 0 a0 ()).bind fun f7 => Flow.fin f7 fun u4 => some true)
def m_gleeref2_SameSlot (a0 : TSlot) (a1 : TSlot) : Option Bool :=
  ifB (a0.Key.toList == a1.Key.toList) (ifB (a0.Room.toList == a1.Room.toList) (ifB (a0.Piece.toList == a1.Piece.toList) (ifB (decide (a0.Time = a1.Time)) ((m_slices_Equal_string_string a0.Parts a1.Parts).bind fun y3 => some y3) (some false)) (some false)) (some false)) (some false)
def m_slices_EqualFunc_api_Slot_api_Slot_api_Slot_api_Slot__gleeref2_SameSlot_l1 (a1 : (List TSlot)) (i1 : Nat) (x2 : TSlot) (u4 : Unit) : Option (Flow Unit Bool) :=
  (getI a1 (i1 : Int)).bind fun e9 => (m_gleeref2_SameSlot x2 e9).bind fun y11 => ifB (!y11) (some (.ret false)) (some (.nxt ()))
def m_slices_EqualFunc_api_Slot_api_Slot_api_Slot_api_Slot__gleeref2_SameSlot (a0 : (List TSlot)) (a1 : (List TSlot)) : Option Bool :=
  ifB ((a0.length : Int) != (a1.length : Int)) (some false) ((rangeM (m_slices_EqualFunc_api_Slot_api_Slot_api_Slot_api_Slot__gleeref2_SameSlot_l1 a1) 0 a0 ()).bind fun f7 => Flow.fin f7 fun u4 => some true)
def m_kit_Outside (a0 : Int) (a1 : Int) (a2 : Int) : Option Bool :=
  ifB (decide (a0 < a1)) (some true) (some (decide (a0 > a2)))
def m_kit_IsMoment (a0 : Int) : Option Bool :=
  (m_kit_Outside a0 0 345686399999).bind fun y1 => some (!y1)
def m_rehearse_flagNumber (a0 : Bool) : Option Int :=
  ifB a0 (some 1) (some 0)
def m_rehearse_compareCame (a0 : TCame) (a1 : TCame) : Option Int :=
  (m_cmp_Compare_int a0.At a1.At).bind fun y3 => (m_strings_Compare a0.Singer a1.Singer).bind fun y4 => (m_rehearse_flagNumber a0.Left).bind fun y5 => (m_rehearse_flagNumber a1.Left).bind fun y6 => (m_cmp_Compare_int y5 y6).bind fun y7 => (m_cmp_Or_int [y3, y4, y7]).bind fun y9 => some y9
def m_rehearse_CheckCame_l1 (a0 : (List TCame)) (i1 : Nat) (x2 : TCame) (u4 : Unit) : Option (Flow Unit Int) :=
  (m_kit_IsMoment x2.At).bind fun y9 => ifB (!y9) (some (.ret 1)) ((m_kit_IsKey x2.Singer).bind fun y10 => ifB (!y10) (some (.ret 5)) (ifB (decide ((i1 : Int) > 0)) ((getI a0 (w64 ((i1 : Int) - 1))).bind fun e11 => (m_rehearse_compareCame e11 x2).bind fun y12 => ifB (decide (y12 ≥ 0)) (some (.ret 7)) (some (.nxt ()))) (some (.nxt ()))))
def m_rehearse_CheckCame (a0 : (List TCame)) : Option Int :=
  ifB (decide ((a0.length : Int) > 5000)) (some 2) ((rangeM (m_rehearse_CheckCame_l1 a0) 0 a0 ()).bind fun f7 => Flow.fin f7 fun u4 => some 0)
def m_rehearse_joined_l1  (i1 : Nat) (x2 : TWindow) (u5 : (List TWindow)) : Option (Flow (List TWindow) (List TWindow)) :=
  ifB (decide ((w64 ((u5.length : Int) - 1)) ≥ 0)) ((getI u5 (w64 ((u5.length : Int) - 1))).bind fun e11 => ifB (decide (x2.From ≤ e11.To)) ((getI u5 (w64 ((u5.length : Int) - 1))).bind fun e12 => (getI u5 (w64 ((u5.length : Int) - 1))).bind fun e13 => some (.nxt (u5.set ((w64 ((u5.length : Int) - 1)).toNat) (TWindow.mk e13.From (max e12.To x2.To))))) ((appM 16 u5 [x2]).bind fun q15 => some (.nxt q15))) ((appM 16 u5 [x2]).bind fun q18 => some (.nxt q18))
def m_rehearse_joined (a0 : (List TWindow)) : Option (List TWindow) :=
  (rangeM m_rehearse_joined_l1 0 a0 []).bind fun f8 => Flow.fin f8 fun u5 => some u5
def m_rehearse_presences_l3  (i50 : Nat) (x51 : ByteArray) (u57 : (List (ByteArray × (List TWindow)))) : Option (Flow (List (ByteArray × (List TWindow))) (List (ByteArray × (List TWindow)))) :=
  (m_rehearse_joined ((lkM u57 x51).getD [])).bind fun y62 => some (.nxt (putM u57 x51 y62))
def m_rehearse_presences_l2  (i33 : Nat) (x34 : (ByteArray × Int)) (u38 : (List (ByteArray × (List TWindow)))) : Option (Flow (List (ByteArray × (List TWindow))) (List (ByteArray × (List TWindow)))) :=
  (appM 16 ((lkM u38 x34.1).getD []) [(TWindow.mk x34.2 345686400000)]).bind fun q44 => some (.nxt (putM u38 x34.1 q44))
def m_rehearse_presences_l1  (i3 : Nat) (x4 : TCame) (u6 : ((List (ByteArray × Int)) × (List (ByteArray × (List TWindow))))) : Option (Flow ((List (ByteArray × Int)) × (List (ByteArray × (List TWindow)))) (List (ByteArray × (List TWindow)))) :=
  (ifB (!x4.Left) (some (.inl (!(hasM u6.1 x4.Singer)))) (some (.inl false)) : Option (Bool ⊕ (Flow ((List (ByteArray × Int)) × (List (ByteArray × (List TWindow)))) (List (ByteArray × (List TWindow)))))).bind fun k13 => Sum.fin k13 fun u11 => ifB u11 (some (.nxt (putM u6.1 x4.Singer x4.At, u6.2))) ((ifB x4.Left (some (.inl (hasM u6.1 x4.Singer))) (some (.inl false)) : Option (Bool ⊕ (Flow ((List (ByteArray × Int)) × (List (ByteArray × (List TWindow)))) (List (ByteArray × (List TWindow)))))).bind fun k18 => Sum.fin k18 fun u16 => ifB u16 (ifB (decide (((lkM u6.1 x4.Singer).getD 0) < x4.At)) ((appM 16 ((lkM u6.2 x4.Singer).getD []) [(TWindow.mk ((lkM u6.1 x4.Singer).getD 0) x4.At)]).bind fun q22 => some (.nxt (delM u6.1 x4.Singer, putM u6.2 x4.Singer q22))) (some (.nxt (delM u6.1 x4.Singer, u6.2)))) (some (.nxt (u6.1, u6.2))))
def m_rehearse_presences (a0 : (List TCame)) : Option (List (ByteArray × (List TWindow))) :=
  (rangeM m_rehearse_presences_l1 0 a0 ([], [])).bind fun f9 => Flow.fin f9 fun u6 => anyOrd u6.1 fun L41 => (rangeM m_rehearse_presences_l2 0 L41 u6.2).bind fun f69 => Flow.fin f69 fun u38 => anyOrd (u38.map Prod.fst) fun L60 => (rangeM m_rehearse_presences_l3 0 L60 u38).bind fun f68 => Flow.fin f68 fun u57 => some u57
def m_kit_Has (a0 : TWindow) (a1 : Int) : Option Bool :=
  ifB (decide (a0.From ≤ a1)) (some (decide (a1 < a0.To))) (some false)
def m_rehearse_There_1 (a0 : TWindow) (a1_0 : Int) : Option Bool :=
  (m_kit_Has a0 a1_0).bind fun y2 => some y2
def m_slices_IndexFunc_api_Window_api_Window__rehearse_There_1_l1 (a1_c0_0 : Int) (i1 : Nat) (x2 : TWindow) (u4 : Unit) : Option (Flow Unit Int) :=
  (m_rehearse_There_1 x2 a1_c0_0).bind fun y8 => ifB y8 (some (.ret (i1 : Int))) (some (.nxt ()))
def m_slices_IndexFunc_api_Window_api_Window__rehearse_There_1 (a0 : (List TWindow)) (a1_c0_0 : Int) : Option Int :=
  (rangeM (m_slices_IndexFunc_api_Window_api_Window__rehearse_There_1_l1 a1_c0_0) 0 a0 ()).bind fun f7 => Flow.fin f7 fun u4 => some (-1)
def m_slices_ContainsFunc_api_Window_api_Window__rehearse_There_1 (a0 : (List TWindow)) (a1_c0_0 : Int) : Option Bool :=
  (m_slices_IndexFunc_api_Window_api_Window__rehearse_There_1 a0 a1_c0_0).bind fun y1 => some (decide (y1 ≥ 0))
noncomputable def m_slices_Sorted_string__maps_Keys_map_string_bool_string_bool_1 (a0_c0_0 : (List (ByteArray × Bool))) : Option (List ByteArray) :=
  if a0_c0_0.length ≤ 1000000000 then m_slices_Sort_string_string (a0_c0_0.map Prod.fst) else none
def m_rehearse_There_l1 (a1 : Int) (y7 : (List (ByteArray × (List TWindow)))) (i14 : Nat) (x15 : ByteArray) (u21 : (List (ByteArray × Bool))) : Option (Flow (List (ByteArray × Bool)) ((List ByteArray) × Int)) :=
  (m_slices_ContainsFunc_api_Window_api_Window__rehearse_There_1 ((lkM y7 x15).getD []) a1).bind fun y26 => ifB y26 (some (.nxt (putM u21 x15 true))) (some (.nxt u21))
def m_rehearse_There (a0 : (List TCame)) (a1 : Int) : Option ((List ByteArray) × Int) :=
  (m_rehearse_CheckCame a0).bind fun y2 => ifB (y2 != 0) (some ([], y2)) ((m_kit_IsMoment a1).bind fun y4 => ifB (!y4) (some ([], 1)) ((m_rehearse_presences a0).bind fun y7 => anyOrd (y7.map Prod.fst) fun L24 => (rangeM (m_rehearse_There_l1 a1 y7) 0 L24 []).bind fun f32 => Flow.fin f32 fun u21 => (m_slices_Sorted_string__maps_Keys_map_string_bool_string_bool_1 u21).bind fun y30 => some (y30, 0)))
def m_gleelaw2_rehearsed  : Option Bool :=
  (m_rehearse_There [(TCame.mk 5 (ByteArray.mk [97, 110, 110].toArray) false)] 6).bind fun y2 => ifB (y2.2 == 0) ((m_slices_Equal_string_string y2.1 [(ByteArray.mk [97, 110, 110].toArray)]).bind fun y5 => some y5) (some false)
def m_gleelaw2_SlotTexts (a0 : (List Int)) : Option Bool :=
  (m_gleemake_Stream_Slots a0 0 4).bind fun y2 => (m_gleemake_Stream_SlotText a0 y2.2).bind fun y5 => (m_rehearse_Text y2.1).bind fun y6 => (m_gleeref2_SlotsFault y2.1).bind fun y7 => (ifB (y7 == 0) ((m_gleeref2_SlotLines y2.1).bind fun y11 => some (.inl y11)) (some (.inl ByteArray.empty)) : Option (ByteArray ⊕ Bool)).bind fun k10 => Sum.fin k10 fun u8 => (m_rehearse_Read y5.1).bind fun y12 => (m_gleeref2_SlotsRead y5.1).bind fun y15 => ifB (y6.2 == y7) (ifB (y6.1.toList == u8.toList) ((m_slices_EqualFunc_api_Slot_api_Slot_api_Slot_api_Slot__gleeref2_SameSlot y12.1 y15.1).bind fun y18 => ifB y18 (ifB (y12.2.1 == y15.2.1) (ifB (y12.2.2 == y15.2.2) (m_gleelaw2_rehearsed.bind fun y19 => some y19) (some false)) (some false)) (some false)) (some false)) (some false)
end
end Go.G
