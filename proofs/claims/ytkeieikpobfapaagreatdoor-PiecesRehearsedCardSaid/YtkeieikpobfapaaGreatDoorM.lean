/- The models. Written by program. -/
import Derived.Test.YtkeieikpobfapaaGreatDoorXM
namespace Go.G
open Go Go.J
set_option linter.unusedVariables false
noncomputable section
structure Tgleemake_Stream where
  L:(List Int)
  at_:Int
  deriving DecidableEq,Inhabited
structure TWindow where
  From:Int
  To:Int
  deriving DecidableEq,Inhabited
structure TSlot where
  Key:ByteArray
  Room:ByteArray
  Piece:ByteArray
  Parts:(List ByteArray)
  Time:TWindow
  deriving DecidableEq,Inhabited
structure TSings where
  Singer:ByteArray
  Piece:ByteArray
  Part:ByteArray
  deriving DecidableEq,Inhabited
structure TCame where
  At:Int
  Singer:ByteArray
  Left:Bool
  deriving DecidableEq,Inhabited
structure TWish where
  Piece:ByteArray
  Need:Int
  deriving DecidableEq,Inhabited
structure TPair where
  Name:ByteArray
  Value:ByteArray
  deriving DecidableEq,Inhabited
structure Trehearse_lacking where
  piece:ByteArray
  many:Int
  deriving DecidableEq,Inhabited
def m_gleemake_Below (a0:Int) (a1:Int):Option Int :=
  ifB (decide (a1<1)) (some 0) ((remM a0 a1).bind fun z1=>ifB (decide (z1<0)) (some (w64 (z1+a1))) (some z1))
def m_gleemake_Stream_Next (a0_0:(List Int)) (a0_1:Int) (a1:Int):Option (Int × Int) :=
  ifB ((a0_0.length:Int)==0) ((m_gleemake_Below (w64 ((w64 (a0_1+1))*7919)) a1).bind fun y1=>some (y1,w64 (a0_1+1))) ((remM (w64 ((w64 (a0_1+1)) - 1)) (a0_0.length:Int)).bind fun z2=>(quoM (w64 ((w64 (a0_1+1)) - 1)) (a0_0.length:Int)).bind fun z3=>(getI a0_0 z2).bind fun e4=>(m_gleemake_Below e4 1073741824).bind fun y5=>(m_gleemake_Below (w64 (y5+(w64 (z3*(w64 (7919+z2)))))) a1).bind fun y6=>some (y6,w64 (a0_1+1)))
def m_gleemake_Stream_Flip (a0_0:(List Int)) (a0_1:Int) (a1:Int):Option (Bool × Int) :=
  (m_gleemake_Stream_Next a0_0 a0_1 a1).bind fun y1=>some (y1.1==0,y1.2)
def m_gleemake_Stream_Pick (a0_0:(List Int)) (a0_1:Int) (a1:(List Int)):Option (Int × Int) :=
  (m_gleemake_Stream_Next a0_0 a0_1 (a1.length:Int)).bind fun y1=>(getI a1 y1.1).bind fun e2=>some (e2,y1.2)
def m_gleemake_Stream_Some (a0_0:(List Int)) (a0_1:Int) (a1:(List ByteArray)):Option (ByteArray × Int) :=
  (m_gleemake_Stream_Next a0_0 a0_1 (a1.length:Int)).bind fun y1=>(getI a1 y1.1).bind fun e2=>some (e2,y1.2)
def m_bits_Len (a0:Int):Option Int :=
  (m_bits_Len64 a0).bind fun y1=>some y1
def m_cmp_isNaN_int (a0:Int):Option Bool :=
  some (a0 != a0)
def m_cmp_Compare_int (a0:Int) (a1:Int):Option Int :=
  (m_cmp_isNaN_int a0).bind fun y1=>(m_cmp_isNaN_int a1).bind fun y2=>ifB y1 (ifB y2 (some 0) (some (-1))) (ifB y2 (some 1) (ifB (decide (a0<a1)) (some (-1)) (ifB (decide (a0>a1)) (some 1) (some 0))))
def m_slices_Compare_int_int_l1 (a1:(List Int)) (i1:Nat) (x2:Int) (u4:Unit):Option (Flow Unit Int) :=
  ifB (decide ((i1:Int)≥(a1.length:Int))) (some (.ret 1)) ((getI a1 (i1:Int)).bind fun e8=>(m_cmp_Compare_int x2 e8).bind fun y9=>ifB (y9 != 0) (some (.ret y9)) (some (.nxt ())))
def m_slices_Compare_int_int (a0:(List Int)) (a1:(List Int)):Option Int :=
  (rangeM (m_slices_Compare_int_int_l1 a1) 0 a0 ()).bind fun f7=>Flow.fin f7 fun u4=>ifB (decide ((a0.length:Int)<(a1.length:Int))) (some (-1)) (some 0)
def m_cmp_isNaN_string (a0:ByteArray):Option Bool :=
  some (!(a0.toList==a0.toList))
def m_cmp_Compare_string (a0:ByteArray) (a1:ByteArray):Option Int :=
  (m_cmp_isNaN_string a0).bind fun y1=>(m_cmp_isNaN_string a1).bind fun y2=>ifB y1 (ifB y2 (some 0) (some (-1))) (ifB y2 (some 1) (ifB (Op.bytesLess a0.toList a1.toList) (some (-1)) (ifB (!(Op.bytesLess a0.toList a1.toList||a0.toList==a1.toList)) (some 1) (some 0))))
def m_slices_Compare_string_string_l1 (a1:(List ByteArray)) (i1:Nat) (x2:ByteArray) (u4:Unit):Option (Flow Unit Int) :=
  ifB (decide ((i1:Int)≥(a1.length:Int))) (some (.ret 1)) ((getI a1 (i1:Int)).bind fun e8=>(m_cmp_Compare_string x2 e8).bind fun y9=>ifB (y9 != 0) (some (.ret y9)) (some (.nxt ())))
def m_slices_Compare_string_string (a0:(List ByteArray)) (a1:(List ByteArray)):Option Int :=
  (rangeM (m_slices_Compare_string_string_l1 a1) 0 a0 ()).bind fun f7=>Flow.fin f7 fun u4=>ifB (decide ((a0.length:Int)<(a1.length:Int))) (some (-1)) (some 0)
def m_gleemake_Stream_RightSlots_1 (a0:TSlot) (a1:TSlot):Option Int :=
  (m_slices_Compare_int_int [a0.Time.From] [a1.Time.From]).bind fun y5=>ifB (y5 != 0) (some y5) ((m_slices_Compare_string_string [a0.Key] [a1.Key]).bind fun y8=>some y8)
def m_slices_insertionSortCmpFunc_api_Slot__gleemake_Stream_RightSlots_1_l2 (a1:Int) (u5:(Int × (List TSlot))):Option (Flow (Int × (List TSlot)) (Flow (Int × (List TSlot)) (List TSlot))) :=
  ifB (decide (u5.1>a1)) ((getI u5.2 u5.1).bind fun e9=>(getI u5.2 (w64 (u5.1 - 1))).bind fun e10=>(m_gleemake_Stream_RightSlots_1 e9 e10).bind fun y11=>ifB (decide (y11<0)) ((getI u5.2 (w64 (u5.1 - 1))).bind fun e12=>(getI u5.2 u5.1).bind fun e13=>(getI u5.2 u5.1).bind fun e14=>(getI (u5.2.set u5.1.toNat e12) (w64 (u5.1 - 1))).bind fun e16=>some (.nxt (w64 (u5.1 - 1),((u5.2.set u5.1.toNat e12).set ((w64 (u5.1 - 1)).toNat) e13)))) (some (.brk (u5.1,u5.2)))) (some (.brk (u5.1,u5.2)))
def m_slices_insertionSortCmpFunc_api_Slot__gleemake_Stream_RightSlots_1_l1 (a1:Int) (a2:Int) (u1:(Int × (List TSlot))):Option (Flow (Int × (List TSlot)) (List TSlot)) :=
  ifB (decide (u1.1<a2)) ((loopM (m_slices_insertionSortCmpFunc_api_Slot__gleemake_Stream_RightSlots_1_l2 a1) (u1.1,u1.2)).bind fun f8=>Flow.fin f8 fun u5=>some (.nxt (w64 (u1.1+1),u5.2))) (some (.brk (u1.1,u1.2)))
def m_slices_insertionSortCmpFunc_api_Slot__gleemake_Stream_RightSlots_1 (a0:(List TSlot)) (a1:Int) (a2:Int):Option (List TSlot) :=
  (loopM (m_slices_insertionSortCmpFunc_api_Slot__gleemake_Stream_RightSlots_1_l1 a1 a2) (w64 (a1+1),a0)).bind fun f4=>Flow.fin f4 fun u1=>some u1.2
def m_slices_pdqsortCmpFunc_api_Slot__gleemake_Stream_RightSlots_1_l1 (a0:(List TSlot)) (a1:Int) (a2:Int) (a3:Int) (u1:Unit):Option (Flow Unit (List TSlot)) :=
  ifB (decide ((w64 (a2 - a1))≤12)) ((m_slices_insertionSortCmpFunc_api_Slot__gleemake_Stream_RightSlots_1 a0 a1 a2).bind fun y5=>some (.ret y5)) (ifB (a3==0) (none) ((ifB (!true) (none) (some (.inl ())):Option (Unit ⊕ (Flow Unit (List TSlot)))).bind fun k9=>Sum.fin k9 fun u7=>none))
def m_slices_pdqsortCmpFunc_api_Slot__gleemake_Stream_RightSlots_1 (a0:(List TSlot)) (a1:Int) (a2:Int) (a3:Int):Option (List TSlot) :=
  (loopM (m_slices_pdqsortCmpFunc_api_Slot__gleemake_Stream_RightSlots_1_l1 a0 a1 a2 a3) ()).bind fun f4=>Flow.fin f4 fun u1=>some a0
def m_slices_SortFunc_api_Slot_api_Slot__gleemake_Stream_RightSlots_1 (a0:(List TSlot)):Option (List TSlot) :=
  (m_bits_Len (IntKind.wrap .u64 (a0.length:Int))).bind fun y1=>(m_slices_pdqsortCmpFunc_api_Slot__gleemake_Stream_RightSlots_1 a0 0 (a0.length:Int) y1).bind fun y2=>some y2
def m_gleemake_Stream_RightSlots_l2 (a0_0:(List Int)) (i26:Nat) (x27:ByteArray) (u30:(Int × (List ByteArray))):Option (Flow (Int × (List ByteArray)) (Flow (Int × Int × (List (ByteArray × Int)) × (List TSlot)) ((List TSlot) × Int))) :=
  (m_gleemake_Stream_Flip a0_0 u30.1 3).bind fun y35=>ifB y35.1 ((appM 16 u30.2 [x27]).bind fun q37=>some (.nxt (y35.2,q37))) (some (.nxt (y35.2,u30.2)))
def m_gleemake_Stream_RightSlots_l1 (a0_0:(List Int)) (i4:Nat) (x5:ByteArray) (u8:(Int × Int × (List (ByteArray × Int)) × (List TSlot))):Option (Flow (Int × Int × (List (ByteArray × Int)) × (List TSlot)) ((List TSlot) × Int)) :=
  (m_gleemake_Stream_Flip a0_0 u8.2.1 6).bind fun y13=>ifB y13.1 (some (.nxt (u8.1,y13.2,u8.2.2.1,u8.2.2.2))) ((m_gleemake_Stream_Pick a0_0 y13.2 [0,10,40]).bind fun y15=>(m_gleemake_Stream_Some a0_0 y15.2 [(ByteArray.mk [104,97,108,108].toArray),(ByteArray.mk [104,97,108,108].toArray),(ByteArray.mk [99,101,108,108,97,114].toArray)]).bind fun y17=>(m_gleemake_Stream_Some a0_0 y17.2 [(ByteArray.mk [103,108,111,114,105,97].toArray),(ByteArray.mk [107,121,114,105,101].toArray),(ByteArray.mk [103,108,111,114,105,97].toArray)]).bind fun y19=>(m_gleemake_Stream_Pick a0_0 y19.2 [10,30,60]).bind fun y22=>(rangeM (m_gleemake_Stream_RightSlots_l2 a0_0) 0 [(ByteArray.mk [97,108,116,111].toArray),(ByteArray.mk [98,97,115,115].toArray)] (y22.2,[])).bind fun f33=>Flow.fin f33 fun u30=>(appM 88 u8.2.2.2 [(TSlot.mk x5 y17.1 y19.1 u30.2 (TWindow.mk (max (w64 (u8.1+y15.1)) ((lkM u8.2.2.1 y17.1).getD 0)) (w64 ((max (w64 (u8.1+y15.1)) ((lkM u8.2.2.1 y17.1).getD 0))+y22.1))))]).bind fun q41=>some (.nxt (max (w64 (u8.1+y15.1)) ((lkM u8.2.2.1 y17.1).getD 0),u30.1,putM u8.2.2.1 y17.1 (w64 ((max (w64 (u8.1+y15.1)) ((lkM u8.2.2.1 y17.1).getD 0))+y22.1)),q41)))
def m_gleemake_Stream_RightSlots (a0_0:(List Int)) (a0_1:Int) (a1:Int):Option ((List TSlot) × Int) :=
  (sliceI [(ByteArray.mk [115,98].toArray),(ByteArray.mk [115,97].toArray),(ByteArray.mk [115,99].toArray),(ByteArray.mk [115,100].toArray),(ByteArray.mk [115,101].toArray)] 0 a1).bind fun q3=>(rangeM (m_gleemake_Stream_RightSlots_l1 a0_0) 0 q3 (0,a0_1,[],[])).bind fun f11=>Flow.fin f11 fun u8=>(m_slices_SortFunc_api_Slot_api_Slot__gleemake_Stream_RightSlots_1 u8.2.2.2).bind fun y45=>some (y45,u8.2.1)
def m_slices_Clone_string_string (a0:(List ByteArray)):Option (List ByteArray) :=
  (appM 16 ([]:List ByteArray) a0).bind fun q3=>some q3
def m_gleemake_Stream_Range (a0_0:(List Int)) (a0_1:Int) (a1:Int) (a2:Int):Option (Int × Int) :=
  ifB (decide (a2<a1)) (some (a1,a0_1)) ((m_gleemake_Stream_Next a0_0 a0_1 (w64 ((w64 (a2 - a1))+1))).bind fun y1=>some (w64 (a1+y1.1),y1.2))
def m_gleemake_Stream_Odd (a0_0:(List Int)) (a0_1:Int) (a1:Int) (a2:Int):Option (Int × Int) :=
  (m_gleemake_Stream_Flip a0_0 a0_1 12).bind fun y1=>ifB y1.1 ((m_gleemake_Stream_Pick a0_0 y1.2 [w64 (a1 - 1),w64 (a2+1),a1,a2,(-1099511627776),1099511627776]).bind fun y3=>some (y3.1,y3.2)) ((m_gleemake_Stream_Range a0_0 y1.2 a1 a2).bind fun y4=>some (y4.1,y4.2))
def m_gleemake_Stream_Slots (a0_0:(List Int)) (a0_1:Int) (a1:Int):Option ((List TSlot) × Int) :=
  (m_gleemake_Stream_RightSlots a0_0 a0_1 a1).bind fun y1=>(ifB (decide ((y1.1.length:Int)>0)) ((m_gleemake_Stream_Flip a0_0 y1.2 12).bind fun y7=>some (.inl (y7.1,y7.2))) (some (.inl (false,y1.2))):Option ((Bool × Int) ⊕ ((List TSlot) × Int))).bind fun k6=>Sum.fin k6 fun u4=>ifB u4.1 ((m_gleemake_Stream_Next a0_0 u4.2 (y1.1.length:Int)).bind fun y8=>(getI y1.1 y8.1).bind fun e9=>(m_gleemake_Stream_Next a0_0 y8.2 3).bind fun y10=>ifB (y10.1==0) ((m_gleemake_Stream_Some a0_0 y10.2 [e9.Key,ByteArray.empty,(ByteArray.mk [115,97].toArray)]).bind fun y12=>(m_gleemake_Stream_Some a0_0 y12.2 [e9.Room,(ByteArray.mk [99,101,108,108,97,114].toArray)]).bind fun y14=>(m_gleemake_Stream_Some a0_0 y14.2 [e9.Piece,(ByteArray.mk [65].toArray)]).bind fun y16=>some ((((y1.1.set y8.1.toNat (TSlot.mk y12.1 e9.Room e9.Piece e9.Parts e9.Time)).set y8.1.toNat (TSlot.mk y12.1 y14.1 e9.Piece e9.Parts e9.Time)).set y8.1.toNat (TSlot.mk y12.1 y14.1 y16.1 e9.Parts e9.Time)),y16.2)) (ifB (y10.1==1) ((m_slices_Clone_string_string e9.Parts).bind fun y93=>(m_gleemake_Stream_Some a0_0 y10.2 [(ByteArray.mk [122,122].toArray),ByteArray.empty,(ByteArray.mk [97,108,116,111].toArray)]).bind fun y96=>(appM 16 y93 [y96.1]).bind fun q98=>some ((y1.1.set y8.1.toNat (TSlot.mk e9.Key e9.Room e9.Piece q98 e9.Time)),y96.2)) ((m_gleemake_Stream_Odd a0_0 y10.2 0 100).bind fun y101=>(m_gleemake_Stream_Odd a0_0 y101.2 1 200).bind fun y102=>some ((y1.1.set y8.1.toNat (TSlot.mk e9.Key e9.Room e9.Piece e9.Parts (TWindow.mk y101.1 y102.1))),y102.2)))) (some (y1.1,u4.2))
def m_gleemake_Stream_RightSings_l2 (a0_0:(List Int)) (x3:ByteArray) (i12:Nat) (x13:ByteArray) (u15:(Int × (List TSings))):Option (Flow (Int × (List TSings)) (Flow (Int × (List TSings)) ((List TSings) × Int))) :=
  (m_gleemake_Stream_Flip a0_0 u15.1 3).bind fun y20=>ifB (!y20.1) ((m_gleemake_Stream_Some a0_0 y20.2 [(ByteArray.mk [97,108,116,111].toArray),(ByteArray.mk [98,97,115,115].toArray)]).bind fun y22=>(appM 48 u15.2 [(TSings.mk x3 x13 y22.1)]).bind fun q24=>some (.nxt (y22.2,q24))) (some (.nxt (y20.2,u15.2)))
def m_gleemake_Stream_RightSings_l1 (a0_0:(List Int)) (i2:Nat) (x3:ByteArray) (u6:(Int × (List TSings))):Option (Flow (Int × (List TSings)) ((List TSings) × Int)) :=
  (rangeM (m_gleemake_Stream_RightSings_l2 a0_0 x3) 0 [(ByteArray.mk [103,108,111,114,105,97].toArray),(ByteArray.mk [107,121,114,105,101].toArray)] (u6.1,u6.2)).bind fun f18=>Flow.fin f18 fun u15=>some (.nxt (u15.1,u15.2))
def m_gleemake_Stream_RightSings (a0_0:(List Int)) (a0_1:Int):Option ((List TSings) × Int) :=
  (rangeM (m_gleemake_Stream_RightSings_l1 a0_0) 0 [(ByteArray.mk [97,110,110].toArray),(ByteArray.mk [98,111,98].toArray),(ByteArray.mk [99,105,100].toArray),(ByteArray.mk [100,97,110].toArray)] (a0_1,[])).bind fun f9=>Flow.fin f9 fun u6=>some (u6.2,u6.1)
def m_gleemake_Stream_SingList (a0_0:(List Int)) (a0_1:Int):Option ((List TSings) × Int) :=
  (m_gleemake_Stream_RightSings a0_0 a0_1).bind fun y1=>(ifB (decide ((y1.1.length:Int)>0)) ((m_gleemake_Stream_Flip a0_0 y1.2 12).bind fun y6=>some (.inl (y6.1,y6.2))) (some (.inl (false,y1.2))):Option ((Bool × Int) ⊕ ((List TSings) × Int))).bind fun k5=>Sum.fin k5 fun u3=>ifB u3.1 ((m_gleemake_Stream_Next a0_0 u3.2 (y1.1.length:Int)).bind fun y7=>(getI y1.1 y7.1).bind fun e8=>((m_gleemake_Stream_Some a0_0 y7.2 [e8.Singer,ByteArray.empty,(ByteArray.mk [97,110,110].toArray)]).bind fun y14=>(m_gleemake_Stream_Some a0_0 y14.2 [e8.Piece,(ByteArray.mk [103,108,111,114,105,97].toArray)]).bind fun y16=>(m_gleemake_Stream_Some a0_0 y16.2 [e8.Part,ByteArray.empty]).bind fun y18=>some (.inl (y18.2,(((y1.1.set y7.1.toNat (TSings.mk y14.1 e8.Piece e8.Part)).set y7.1.toNat (TSings.mk y14.1 y16.1 e8.Part)).set y7.1.toNat (TSings.mk y14.1 y16.1 y18.1)))):Option ((Int × (List TSings)) ⊕ ((List TSings) × Int))).bind fun k12=>Sum.fin k12 fun u9=>some (u9.2,u9.1)) (some (y1.1,u3.2))
def m_slices_Grow_api_Came_api_Came__nil (a1:Int):Option (List TCame) :=
  ifB (decide (a1<0)) (none) (ifB (decide ((w64 (a1 - (w64 (0 - 0))))>0)) ((sliceI ([]:List TCame) 0 0).bind fun q2=>(growM 32 (w64 (a1 - (w64 (0 - 0))))).bind fun u3=>some []) (some []))
def m_slices_Concat_api_Came_api_Came_l2  (i10:Nat) (x11:(List TCame)) (u13:(List TCame)):Option (Flow (List TCame) (List TCame)) :=
  (appM 32 u13 x11).bind fun q18=>some (.nxt q18)
def m_slices_Concat_api_Came_api_Came_l1  (i1:Nat) (x2:(List TCame)) (u4:Int):Option (Flow Int (List TCame)) :=
  ifB (decide ((w64 (u4+(x2.length:Int)))<0)) (none) (some (.nxt (w64 (u4+(x2.length:Int)))))
def m_slices_Concat_api_Came_api_Came (a0:(List (List TCame))):Option (List TCame) :=
  (rangeM m_slices_Concat_api_Came_api_Came_l1 0 a0 0).bind fun f7=>Flow.fin f7 fun u4=>(m_slices_Grow_api_Came_api_Came__nil u4).bind fun y8=>(rangeM m_slices_Concat_api_Came_api_Came_l2 0 a0 y8).bind fun f16=>Flow.fin f16 fun u13=>some u13
def m_gleeref2_sign (a0:Int):Option Int :=
  ifB (decide (a0<0)) (some (-1)) (ifB (decide (a0>0)) (some 1) (some 0))
def m_gleeref2_cameOrder (a0:TCame) (a1:TCame):Option Int :=
  ifB (a0.At != a1.At) ((m_gleeref2_sign (w64 (a0.At - a1.At))).bind fun y3=>some y3) (ifB (!(a0.Singer.toList==a1.Singer.toList)) ((m_strings_Compare a0.Singer a1.Singer).bind fun y4=>some y4) (ifB (a0.Left==a1.Left) (some 0) (ifB a1.Left (some (-1)) (some 1))))
def m_slices_insertionSortCmpFunc_api_Came__gleeref2_cameOrder_l2 (a1:Int) (u5:(Int × (List TCame))):Option (Flow (Int × (List TCame)) (Flow (Int × (List TCame)) (List TCame))) :=
  ifB (decide (u5.1>a1)) ((getI u5.2 u5.1).bind fun e9=>(getI u5.2 (w64 (u5.1 - 1))).bind fun e10=>(m_gleeref2_cameOrder e9 e10).bind fun y11=>ifB (decide (y11<0)) ((getI u5.2 (w64 (u5.1 - 1))).bind fun e12=>(getI u5.2 u5.1).bind fun e13=>(getI u5.2 u5.1).bind fun e14=>(getI (u5.2.set u5.1.toNat e12) (w64 (u5.1 - 1))).bind fun e15=>some (.nxt (w64 (u5.1 - 1),((u5.2.set u5.1.toNat e12).set ((w64 (u5.1 - 1)).toNat) e13)))) (some (.brk (u5.1,u5.2)))) (some (.brk (u5.1,u5.2)))
def m_slices_insertionSortCmpFunc_api_Came__gleeref2_cameOrder_l1 (a1:Int) (a2:Int) (u1:(Int × (List TCame))):Option (Flow (Int × (List TCame)) (List TCame)) :=
  ifB (decide (u1.1<a2)) ((loopM (m_slices_insertionSortCmpFunc_api_Came__gleeref2_cameOrder_l2 a1) (u1.1,u1.2)).bind fun f8=>Flow.fin f8 fun u5=>some (.nxt (w64 (u1.1+1),u5.2))) (some (.brk (u1.1,u1.2)))
def m_slices_insertionSortCmpFunc_api_Came__gleeref2_cameOrder (a0:(List TCame)) (a1:Int) (a2:Int):Option (List TCame) :=
  (loopM (m_slices_insertionSortCmpFunc_api_Came__gleeref2_cameOrder_l1 a1 a2) (w64 (a1+1),a0)).bind fun f4=>Flow.fin f4 fun u1=>some u1.2
def m_slices_pdqsortCmpFunc_api_Came__gleeref2_cameOrder_l1 (a0:(List TCame)) (a1:Int) (a2:Int) (a3:Int) (u1:Unit):Option (Flow Unit (List TCame)) :=
  ifB (decide ((w64 (a2 - a1))≤12)) ((m_slices_insertionSortCmpFunc_api_Came__gleeref2_cameOrder a0 a1 a2).bind fun y5=>some (.ret y5)) (ifB (a3==0) (none) ((ifB (!true) (none) (some (.inl ())):Option (Unit ⊕ (Flow Unit (List TCame)))).bind fun k8=>Sum.fin k8 fun u6=>none))
def m_slices_pdqsortCmpFunc_api_Came__gleeref2_cameOrder (a0:(List TCame)) (a1:Int) (a2:Int) (a3:Int):Option (List TCame) :=
  (loopM (m_slices_pdqsortCmpFunc_api_Came__gleeref2_cameOrder_l1 a0 a1 a2 a3) ()).bind fun f4=>Flow.fin f4 fun u1=>some a0
def m_slices_SortFunc_api_Came_api_Came__gleeref2_cameOrder (a0:(List TCame)):Option (List TCame) :=
  (m_bits_Len (IntKind.wrap .u64 (a0.length:Int))).bind fun y1=>(m_slices_pdqsortCmpFunc_api_Came__gleeref2_cameOrder a0 0 (a0.length:Int) y1).bind fun y2=>some y2
def m_slices_Compact_api_Came_api_Came_l2 (a0:(List TCame)) (u1:Int) (u8:(Int × Int × (List TCame))):Option (Flow (Int × Int × (List TCame)) (Flow Int (List TCame))) :=
  (sliceI u8.2.2 u1 (a0.length:Int)).bind fun q12=>ifB (decide (u8.2.1<(q12.length:Int))) ((getI q12 u8.2.1).bind fun e13=>(getI q12 (w64 (u8.2.1 - 1))).bind fun e14=>ifB (!(decide (e13=e14))) ((getI q12 u8.2.1).bind fun e15=>(getI u8.2.2 u8.1).bind fun e16=>some (.nxt (w64 (u8.1+1),w64 (u8.2.1+1),(u8.2.2.set u8.1.toNat e15)))) (some (.nxt (u8.1,w64 (u8.2.1+1),u8.2.2)))) (some (.brk (u8.1,u8.2.1,u8.2.2)))
def m_slices_Compact_api_Came_api_Came_l1 (a0:(List TCame)) (u1:Int):Option (Flow Int (List TCame)) :=
  ifB (decide (u1<(a0.length:Int))) ((getI a0 u1).bind fun e5=>(getI a0 (w64 (u1 - 1))).bind fun e6=>ifB (decide (e5=e6)) ((sliceI a0 u1 (a0.length:Int)).bind fun q7=>(loopM (m_slices_Compact_api_Came_api_Came_l2 a0 u1) (u1,1,a0)).bind fun f11=>Flow.fin f11 fun u8=>(sliceI u8.2.2 u8.1 (u8.2.2.length:Int)).bind fun q17=>(sliceI (clearM (TCame.mk 0 ByteArray.empty false) u8.2.2 u8.1) 0 u8.1).bind fun q18=>some (.ret q18)) (some (.nxt (w64 (u1+1))))) (some (.brk u1))
def m_slices_Compact_api_Came_api_Came (a0:(List TCame)):Option (List TCame) :=
  ifB (decide ((a0.length:Int)<2)) (some a0) ((loopM (m_slices_Compact_api_Came_api_Came_l1 a0) 1).bind fun f4=>Flow.fin f4 fun u1=>some a0)
def m_gleeref2_CameOf (a0:(List TCame)) (a1:(List TCame)):Option ((List TCame) × Int) :=
  (m_slices_Concat_api_Came_api_Came [a0,a1]).bind fun y2=>(m_slices_SortFunc_api_Came_api_Came__gleeref2_cameOrder y2).bind fun y4=>(m_slices_Compact_api_Came_api_Came y4).bind fun y5=>ifB (decide ((y5.length:Int)>5000)) (some ([],2)) (some (y5,0))
def m_gleemake_Stream_Cames_l1 (a0_0:(List Int)) (i1:Nat) (x2:Nat) (u5:(Int × Int × (List TCame))):Option (Flow (Int × Int × (List TCame)) ((List TCame) × Int)) :=
  (m_gleemake_Stream_Pick a0_0 u5.2.1 [0,5,10,20]).bind fun y11=>(m_gleemake_Stream_Some a0_0 y11.2 [(ByteArray.mk [97,110,110].toArray),(ByteArray.mk [97,110,110].toArray),(ByteArray.mk [98,111,98].toArray),(ByteArray.mk [99,105,100].toArray)]).bind fun y13=>(m_gleemake_Stream_Flip a0_0 y13.2 3).bind fun y14=>(m_gleemake_Stream_Flip a0_0 y14.2 100).bind fun y16=>(ifB y16.1 ((m_gleemake_Stream_Odd a0_0 y16.2 0 50).bind fun y20=>(m_gleemake_Stream_Some a0_0 y20.2 [ByteArray.empty,(ByteArray.mk [97,110,110].toArray)]).bind fun y22=>some (.inl (y22.2,y20.1,y22.1))) (some (.inl (y16.2,w64 (u5.1+y11.1),y13.1))):Option ((Int × Int × ByteArray) ⊕ (Flow (Int × Int × (List TCame)) ((List TCame) × Int)))).bind fun k19=>Sum.fin k19 fun u17=>(appM 32 u5.2.2 [(TCame.mk u17.2.1 u17.2.2 y14.1)]).bind fun q24=>some (.nxt (w64 (u5.1+y11.1),u17.1,q24))
def m_gleemake_Stream_Cames (a0_0:(List Int)) (a0_1:Int) (a1:Int):Option ((List TCame) × Int) :=
  (rangeI a1).bind fun L30=>(rangeM (m_gleemake_Stream_Cames_l1 a0_0) 0 L30 (0,a0_1,[])).bind fun f8=>Flow.fin f8 fun u5=>(m_gleeref2_CameOf u5.2.2 []).bind fun y28=>some (y28.1,u5.2.1)
def m_gleemake_Stream_Wishes_l1 (a0_0:(List Int)) (i2:Nat) (x3:ByteArray) (u6:(Int × (List TWish))):Option (Flow (Int × (List TWish)) ((List TWish) × Int)) :=
  (m_gleemake_Stream_Flip a0_0 u6.1 4).bind fun y11=>ifB y11.1 (some (.nxt (y11.2,u6.2))) ((m_gleemake_Stream_Pick a0_0 y11.2 [1,20,40,60]).bind fun y13=>(m_gleemake_Stream_Flip a0_0 y13.2 50).bind fun y15=>(ifB y15.1 ((m_gleemake_Stream_Some a0_0 y15.2 [ByteArray.empty,(ByteArray.mk [103,108,111,114,105,97].toArray)]).bind fun y20=>(m_gleemake_Stream_Odd a0_0 y20.2 1 86400000).bind fun y21=>some (.inl (y21.2,y20.1,y21.1))) (some (.inl (y15.2,x3,y13.1))):Option ((Int × ByteArray × Int) ⊕ (Flow (Int × (List TWish)) ((List TWish) × Int)))).bind fun k18=>Sum.fin k18 fun u16=>(appM 24 u6.2 [(TWish.mk u16.2.1 u16.2.2)]).bind fun q23=>some (.nxt (u16.1,q23)))
def m_gleemake_Stream_Wishes (a0_0:(List Int)) (a0_1:Int):Option ((List TWish) × Int) :=
  (rangeM (m_gleemake_Stream_Wishes_l1 a0_0) 0 [(ByteArray.mk [103,108,111,114,105,97].toArray),(ByteArray.mk [107,121,114,105,101].toArray),(ByteArray.mk [115,97,110,99,116,117,115].toArray)] (a0_1,[])).bind fun f9=>Flow.fin f9 fun u6=>some (u6.2,u6.1)
def m_gleemake_Stream_RehearsalTime (a0_0:(List Int)) (a0_1:Int):Option (Int × Int) :=
  (m_gleemake_Stream_Pick a0_0 a0_1 [0,20,45,60,100,300,(-1)]).bind fun y2=>some (y2.1,y2.2)
def m_kit_IsKey (a0:ByteArray):Option Bool :=
  ifB (!(a0.toList==ByteArray.empty.toList)) (ifB (decide ((a0.size:Int)≤40)) ((strI a0 0).bind fun c1=>(m_strings_IndexByte (ByteArray.mk [97,98,99,100,101,102,103,104,105,106,107,108,109,110,111,112,113,114,115,116,117,118,119,120,121,122].toArray) c1).bind fun y2=>ifB (decide (y2≥0)) ((m_strings_Trim a0 (ByteArray.mk [97,98,99,100,101,102,103,104,105,106,107,108,109,110,111,112,113,114,115,116,117,118,119,120,121,122,48,49,50,51,52,53,54,55,56,57,45,95].toArray)).bind fun y3=>some (y3.toList==ByteArray.empty.toList)) (some false)) (some false)) (some false)
def m_rehearse_slotFault_1 (a0:TSlot) (a1_0:ByteArray) (a1_1:ByteArray) (a1_2:ByteArray) (a1_3:(List ByteArray)) (a1_4:Int) (a1_5:Int):Option Bool :=
  some (a0.Key.toList==a1_0.toList)
def m_slices_IndexFunc_api_Slot_api_Slot__rehearse_slotFault_1_l1 (a1_c0_0:ByteArray) (a1_c0_1:ByteArray) (a1_c0_2:ByteArray) (a1_c0_3:(List ByteArray)) (a1_c0_4:Int) (a1_c0_5:Int) (i1:Nat) (x2:TSlot) (u4:Unit):Option (Flow Unit Int) :=
  (m_rehearse_slotFault_1 x2 a1_c0_0 a1_c0_1 a1_c0_2 a1_c0_3 a1_c0_4 a1_c0_5).bind fun y8=>ifB y8 (some (.ret (i1:Int))) (some (.nxt ()))
def m_slices_IndexFunc_api_Slot_api_Slot__rehearse_slotFault_1 (a0:(List TSlot)) (a1_c0_0:ByteArray) (a1_c0_1:ByteArray) (a1_c0_2:ByteArray) (a1_c0_3:(List ByteArray)) (a1_c0_4:Int) (a1_c0_5:Int):Option Int :=
  (rangeM (m_slices_IndexFunc_api_Slot_api_Slot__rehearse_slotFault_1_l1 a1_c0_0 a1_c0_1 a1_c0_2 a1_c0_3 a1_c0_4 a1_c0_5) 0 a0 ()).bind fun f7=>Flow.fin f7 fun u4=>some (-1)
def m_slices_ContainsFunc_api_Slot_api_Slot__rehearse_slotFault_1 (a0:(List TSlot)) (a1_c0_0:ByteArray) (a1_c0_1:ByteArray) (a1_c0_2:ByteArray) (a1_c0_3:(List ByteArray)) (a1_c0_4:Int) (a1_c0_5:Int):Option Bool :=
  (m_slices_IndexFunc_api_Slot_api_Slot__rehearse_slotFault_1 a0 a1_c0_0 a1_c0_1 a1_c0_2 a1_c0_3 a1_c0_4 a1_c0_5).bind fun y1=>some (decide (y1≥0))
def m_rehearse_namesFault_l1 (a0:(List ByteArray)) (i1:Nat) (x2:ByteArray) (u4:Unit):Option (Flow Unit Int) :=
  (m_kit_IsKey x2).bind fun y8=>ifB (!y8) (some (.ret 5)) ((ifB (decide ((i1:Int)>0)) ((getI a0 (w64 ((i1:Int) - 1))).bind fun e12=>some (.inl (Op.bytesLess x2.toList e12.toList||x2.toList==e12.toList))) (some (.inl false)):Option (Bool ⊕ (Flow Unit Int))).bind fun k11=>Sum.fin k11 fun u9=>ifB u9 (some (.ret 7)) (some (.nxt ())))
def m_rehearse_namesFault (a0:(List ByteArray)):Option Int :=
  (rangeM (m_rehearse_namesFault_l1 a0) 0 a0 ()).bind fun f7=>Flow.fin f7 fun u4=>some 0
def m_kit_IsTime (a0:TWindow):Option Bool :=
  ifB (decide (a0.From≥0)) (ifB (decide (a0.From<a0.To)) (some (decide (a0.To≤345686400000))) (some false)) (some false)
def m_cmp_Or_int_l1  (i1:Nat) (x2:Int) (u4:Unit):Option (Flow Unit Int) :=
  ifB (x2 != 0) (some (.ret x2)) (some (.nxt ()))
def m_cmp_Or_int (a0:(List Int)):Option Int :=
  (rangeM m_cmp_Or_int_l1 0 a0 ()).bind fun f7=>Flow.fin f7 fun u4=>some 0
def m_rehearse_slotFault (a0:(List TSlot)) (a1:Int):Option Int :=
  (getI a0 a1).bind fun e1=>((m_kit_IsKey e1.Key).bind fun y6=>ifB (!y6) (some (.inl true)) ((m_kit_IsKey e1.Room).bind fun y7=>ifB (!y7) (some (.inl true)) ((m_kit_IsKey e1.Piece).bind fun y8=>some (.inl (!y8)))):Option (Bool ⊕ Int)).bind fun k5=>Sum.fin k5 fun u3=>ifB u3 (some 5) ((sliceI a0 0 a1).bind fun q9=>(m_slices_ContainsFunc_api_Slot_api_Slot__rehearse_slotFault_1 q9 e1.Key e1.Room e1.Piece e1.Parts e1.Time.From e1.Time.To).bind fun y10=>ifB y10 (some 6) (ifB (decide ((e1.Parts.length:Int)>12)) (some 2) ((m_rehearse_namesFault e1.Parts).bind fun y11=>ifB (y11 != 0) (some y11) ((m_kit_IsTime e1.Time).bind fun y12=>ifB (!y12) (some 1) ((ifB (decide (a1>0)) ((getI a0 (w64 (a1 - 1))).bind fun e16=>(m_cmp_Compare_int e16.Time.From e1.Time.From).bind fun y17=>(getI a0 (w64 (a1 - 1))).bind fun e18=>(m_strings_Compare e18.Key e1.Key).bind fun y19=>(m_cmp_Or_int [y17,y19]).bind fun y21=>some (.inl (decide (y21≥0)))) (some (.inl false)):Option (Bool ⊕ Int)).bind fun k15=>Sum.fin k15 fun u13=>ifB u13 (some 7) (some 0))))))
def m_rehearse_meet (a0:TWindow) (a1:TWindow):Option Bool :=
  ifB (decide (a0.From<a1.To)) (some (decide (a1.From<a0.To))) (some false)
def m_rehearse_CheckSlots_l3 (x10:TSlot) (i18:Nat) (x19:TSlot) (u21:Unit):Option (Flow Unit (Flow Unit Int)) :=
  (ifB (x10.Room.toList==x19.Room.toList) ((m_rehearse_meet x10.Time x19.Time).bind fun y29=>some (.inl y29)) (some (.inl false)):Option (Bool ⊕ (Flow Unit (Flow Unit Int)))).bind fun k28=>Sum.fin k28 fun u26=>ifB u26 (some (.ret (.ret 13))) (some (.nxt ()))
def m_rehearse_CheckSlots_l2 (a0:(List TSlot)) (i9:Nat) (x10:TSlot) (u12:Unit):Option (Flow Unit Int) :=
  (sliceI a0 0 (i9:Int)).bind fun q17=>(rangeM (m_rehearse_CheckSlots_l3 x10) 0 q17 ()).bind fun f24=>Flow.fin f24 fun u21=>some (.nxt ())
def m_rehearse_CheckSlots_l1 (a0:(List TSlot)) (i1:Nat) (x2:TSlot) (u4:Unit):Option (Flow Unit Int) :=
  (m_rehearse_slotFault a0 (i1:Int)).bind fun y8=>ifB (y8 != 0) (some (.ret y8)) (some (.nxt ()))
def m_rehearse_CheckSlots (a0:(List TSlot)):Option Int :=
  ifB (decide ((a0.length:Int)>300)) (some 2) ((rangeM (m_rehearse_CheckSlots_l1 a0) 0 a0 ()).bind fun f7=>Flow.fin f7 fun u4=>(rangeM (m_rehearse_CheckSlots_l2 a0) 0 a0 ()).bind fun f15=>Flow.fin f15 fun u12=>some 0)
def m_rehearse_CheckSings_l1 (a0:(List TSings)) (i1:Nat) (x2:TSings) (u4:Unit):Option (Flow Unit Int) :=
  ((m_kit_IsKey x2.Singer).bind fun y12=>ifB (!y12) (some (.inl true)) ((m_kit_IsKey x2.Piece).bind fun y13=>ifB (!y13) (some (.inl true)) ((m_kit_IsKey x2.Part).bind fun y14=>some (.inl (!y14)))):Option (Bool ⊕ (Flow Unit Int))).bind fun k11=>Sum.fin k11 fun u9=>ifB u9 (some (.ret 5)) (ifB ((i1:Int)==0) (some (.nxt ())) ((getI a0 (w64 ((i1:Int) - 1))).bind fun e15=>(m_strings_Compare e15.Singer x2.Singer).bind fun y16=>(getI a0 (w64 ((i1:Int) - 1))).bind fun e17=>(m_strings_Compare e17.Piece x2.Piece).bind fun y18=>(m_cmp_Or_int [y16,y18]).bind fun y20=>ifB (y20==0) (some (.ret 6)) (ifB (decide (y20>0)) (some (.ret 7)) (some (.nxt ())))))
def m_rehearse_CheckSings (a0:(List TSings)):Option Int :=
  ifB (decide ((a0.length:Int)>5000)) (some 2) ((rangeM (m_rehearse_CheckSings_l1 a0) 0 a0 ()).bind fun f7=>Flow.fin f7 fun u4=>some 0)
def m_rehearse_slotsFault (a0:(List TSlot)) (a1:(List TSings)):Option Int :=
  (m_rehearse_CheckSlots a0).bind fun y1=>ifB (y1 != 0) (some y1) ((m_rehearse_CheckSings a1).bind fun y2=>some y2)
def m_kit_Outside (a0:Int) (a1:Int) (a2:Int):Option Bool :=
  ifB (decide (a0<a1)) (some true) (some (decide (a0>a2)))
def m_kit_IsMoment (a0:Int):Option Bool :=
  (m_kit_Outside a0 0 345686399999).bind fun y1=>some (!y1)
def m_rehearse_flagNumber (a0:Bool):Option Int :=
  ifB a0 (some 1) (some 0)
def m_rehearse_compareCame (a0:TCame) (a1:TCame):Option Int :=
  (m_cmp_Compare_int a0.At a1.At).bind fun y3=>(m_strings_Compare a0.Singer a1.Singer).bind fun y4=>(m_rehearse_flagNumber a0.Left).bind fun y5=>(m_rehearse_flagNumber a1.Left).bind fun y6=>(m_cmp_Compare_int y5 y6).bind fun y7=>(m_cmp_Or_int [y3,y4,y7]).bind fun y9=>some y9
def m_rehearse_CheckCame_l1 (a0:(List TCame)) (i1:Nat) (x2:TCame) (u4:Unit):Option (Flow Unit Int) :=
  (m_kit_IsMoment x2.At).bind fun y9=>ifB (!y9) (some (.ret 1)) ((m_kit_IsKey x2.Singer).bind fun y10=>ifB (!y10) (some (.ret 5)) (ifB (decide ((i1:Int)>0)) ((getI a0 (w64 ((i1:Int) - 1))).bind fun e11=>(m_rehearse_compareCame e11 x2).bind fun y12=>ifB (decide (y12≥0)) (some (.ret 7)) (some (.nxt ()))) (some (.nxt ()))))
def m_rehearse_CheckCame (a0:(List TCame)):Option Int :=
  ifB (decide ((a0.length:Int)>5000)) (some 2) ((rangeM (m_rehearse_CheckCame_l1 a0) 0 a0 ()).bind fun f7=>Flow.fin f7 fun u4=>some 0)
def m_rehearse_joined_l1  (i1:Nat) (x2:TWindow) (u5:(List TWindow)):Option (Flow (List TWindow) (List TWindow)) :=
  ifB (decide ((w64 ((u5.length:Int) - 1))≥0)) ((getI u5 (w64 ((u5.length:Int) - 1))).bind fun e11=>ifB (decide (x2.From≤e11.To)) ((getI u5 (w64 ((u5.length:Int) - 1))).bind fun e12=>(getI u5 (w64 ((u5.length:Int) - 1))).bind fun e13=>some (.nxt (u5.set ((w64 ((u5.length:Int) - 1)).toNat) (TWindow.mk e13.From (max e12.To x2.To))))) ((appM 16 u5 [x2]).bind fun q15=>some (.nxt q15))) ((appM 16 u5 [x2]).bind fun q18=>some (.nxt q18))
def m_rehearse_joined (a0:(List TWindow)):Option (List TWindow) :=
  (rangeM m_rehearse_joined_l1 0 a0 []).bind fun f8=>Flow.fin f8 fun u5=>some u5
def m_rehearse_presences_l3  (i50:Nat) (x51:ByteArray) (u57:(List (ByteArray × (List TWindow)))):Option (Flow (List (ByteArray × (List TWindow))) (List (ByteArray × (List TWindow)))) :=
  (m_rehearse_joined ((lkM u57 x51).getD [])).bind fun y62=>some (.nxt (putM u57 x51 y62))
def m_rehearse_presences_l2  (i33:Nat) (x34:(ByteArray × Int)) (u38:(List (ByteArray × (List TWindow)))):Option (Flow (List (ByteArray × (List TWindow))) (List (ByteArray × (List TWindow)))) :=
  (appM 16 ((lkM u38 x34.1).getD []) [(TWindow.mk x34.2 345686400000)]).bind fun q44=>some (.nxt (putM u38 x34.1 q44))
def m_rehearse_presences_l1  (i3:Nat) (x4:TCame) (u6:((List (ByteArray × Int)) × (List (ByteArray × (List TWindow))))):Option (Flow ((List (ByteArray × Int)) × (List (ByteArray × (List TWindow)))) (List (ByteArray × (List TWindow)))) :=
  (ifB (!x4.Left) (some (.inl (!(hasM u6.1 x4.Singer)))) (some (.inl false)):Option (Bool ⊕ (Flow ((List (ByteArray × Int)) × (List (ByteArray × (List TWindow)))) (List (ByteArray × (List TWindow)))))).bind fun k13=>Sum.fin k13 fun u11=>ifB u11 (some (.nxt (putM u6.1 x4.Singer x4.At,u6.2))) ((ifB x4.Left (some (.inl (hasM u6.1 x4.Singer))) (some (.inl false)):Option (Bool ⊕ (Flow ((List (ByteArray × Int)) × (List (ByteArray × (List TWindow)))) (List (ByteArray × (List TWindow)))))).bind fun k18=>Sum.fin k18 fun u16=>ifB u16 (ifB (decide (((lkM u6.1 x4.Singer).getD 0)<x4.At)) ((appM 16 ((lkM u6.2 x4.Singer).getD []) [(TWindow.mk ((lkM u6.1 x4.Singer).getD 0) x4.At)]).bind fun q22=>some (.nxt (delM u6.1 x4.Singer,putM u6.2 x4.Singer q22))) (some (.nxt (delM u6.1 x4.Singer,u6.2)))) (some (.nxt (u6.1,u6.2))))
def m_rehearse_presences (a0:(List TCame)):Option (List (ByteArray × (List TWindow))) :=
  (rangeM m_rehearse_presences_l1 0 a0 ([],[])).bind fun f9=>Flow.fin f9 fun u6=>anyOrd u6.1 fun L41=>(rangeM m_rehearse_presences_l2 0 L41 u6.2).bind fun f69=>Flow.fin f69 fun u38=>anyOrd (u38.map Prod.fst) fun L60=>(rangeM m_rehearse_presences_l3 0 L60 u38).bind fun f68=>Flow.fin f68 fun u57=>some (canonM u57)
def m_rehearse_keeperOf (a0:(List TSlot)) (a1:(List TSings)) (a2:(List TCame)):Option ((Option (List (ByteArray × (List TWindow)))) × Int) :=
  (m_rehearse_slotsFault a0 a1).bind fun y1=>ifB (y1 != 0) (some (none,y1)) ((m_rehearse_CheckCame a2).bind fun y2=>ifB (y2 != 0) (some (none,y2)) ((m_rehearse_presences a2).bind fun y3=>anyOrd y3 fun q8=>some (some (canonM q8),0)))
def m_rehearse_Rehearsed_1 (a0:TSings) (a1_0:ByteArray) (a2_0:ByteArray):Option Bool :=
  ifB (a0.Singer.toList==a1_0.toList) (some (a0.Piece.toList==a2_0.toList)) (some false)
def m_slices_IndexFunc_api_Sings_api_Sings__rehearse_Rehearsed_1_l1 (a1_c0_0:ByteArray) (a1_c1_0:ByteArray) (i1:Nat) (x2:TSings) (u4:Unit):Option (Flow Unit Int) :=
  (m_rehearse_Rehearsed_1 x2 a1_c0_0 a1_c1_0).bind fun y8=>ifB y8 (some (.ret (i1:Int))) (some (.nxt ()))
def m_slices_IndexFunc_api_Sings_api_Sings__rehearse_Rehearsed_1 (a0:(List TSings)) (a1_c0_0:ByteArray) (a1_c1_0:ByteArray):Option Int :=
  (rangeM (m_slices_IndexFunc_api_Sings_api_Sings__rehearse_Rehearsed_1_l1 a1_c0_0 a1_c1_0) 0 a0 ()).bind fun f7=>Flow.fin f7 fun u4=>some (-1)
def m_slices_Index_string_string_l1 (a1:ByteArray) (i1:Nat) (x2:ByteArray) (u4:Unit):Option (Flow Unit Int) :=
  ifB (a1.toList==x2.toList) (some (.ret (i1:Int))) (some (.nxt ()))
def m_slices_Index_string_string (a0:(List ByteArray)) (a1:ByteArray):Option Int :=
  (rangeM (m_slices_Index_string_string_l1 a1) 0 a0 ()).bind fun f7=>Flow.fin f7 fun u4=>some (-1)
def m_slices_Contains_string_string (a0:(List ByteArray)) (a1:ByteArray):Option Bool :=
  (m_slices_Index_string_string a0 a1).bind fun y1=>some (decide (y1≥0))
def m_rehearse_isAsked (a0:TSlot) (a1:TSings):Option Bool :=
  ifB (a0.Piece.toList==a1.Piece.toList) (ifB ((a0.Parts.length:Int)==0) (some true) ((m_slices_Contains_string_string a0.Parts a1.Part).bind fun y3=>some y3)) (some false)
def m_rehearse_within_l1 (a1:TWindow) (i2:Nat) (x3:TWindow) (u6:(List TWindow)):Option (Flow (List TWindow) (List TWindow)) :=
  ifB (decide ((max x3.From a1.From)<(min x3.To a1.To))) ((appM 16 u6 [(TWindow.mk (max x3.From a1.From) (min x3.To a1.To))]).bind fun q14=>some (.nxt q14)) (some (.nxt u6))
def m_rehearse_within (a0:(List TWindow)) (a1:TWindow):Option (List TWindow) :=
  (rangeM (m_rehearse_within_l1 a1) 0 a0 []).bind fun f9=>Flow.fin f9 fun u6=>some u6
def m_rehearse_keeper_rehearsed_l3  (i32:Nat) (x33:TWindow) (u35:Int):Option (Flow Int (Flow Int Int)) :=
  some (.nxt (w64 (u35+(w64 (x33.To - x33.From)))))
def m_rehearse_keeper_rehearsed_l4  (i41:Nat) (x42:TWindow) (u44:Int):Option (Flow Int (Flow Int Int)) :=
  some (.nxt (w64 (u44+(w64 (x42.To - x42.From)))))
def m_rehearse_keeper_rehearsed_l2 (a0_2:(List (ByteArray × (List TWindow)))) (a1:TSings) (i22:Nat) (x23:TWindow) (u25:Int):Option (Flow Int Int) :=
  (m_rehearse_within ((lkM a0_2 a1.Singer).getD []) x23).bind fun y30=>(rangeM m_rehearse_keeper_rehearsed_l3 0 y30 u25).bind fun f38=>Flow.fin f38 fun u35=>some (.nxt u35)
def m_rehearse_keeper_rehearsed_l1 (a1:TSings) (a2:Int) (i2:Nat) (x3:TSlot) (u6:(List TWindow)):Option (Flow (List TWindow) Int) :=
  ((m_rehearse_isAsked x3 a1).bind fun y15=>ifB y15 (some (.inl (decide (x3.Time.From<a2)))) (some (.inl false)):Option (Bool ⊕ (Flow (List TWindow) Int))).bind fun k14=>Sum.fin k14 fun u12=>ifB u12 ((appM 16 u6 [(TWindow.mk x3.Time.From (min x3.Time.To a2))]).bind fun q17=>some (.nxt q17)) (some (.nxt u6))
def m_rehearse_keeper_rehearsed (a0_0:(List TSlot)) (a0_1:(List TSings)) (a0_2:(List (ByteArray × (List TWindow)))) (a1:TSings) (a2:Int):Option Int :=
  (rangeM (m_rehearse_keeper_rehearsed_l1 a1 a2) 0 a0_0 []).bind fun f9=>Flow.fin f9 fun u6=>(m_rehearse_joined u6).bind fun y20=>(rangeM (m_rehearse_keeper_rehearsed_l2 a0_2 a1) 0 y20 0).bind fun f28=>Flow.fin f28 fun u25=>some u25
def m_rehearse_Rehearsed (a0:(List TSlot)) (a1:(List TSings)) (a2:(List TCame)) (a3:ByteArray) (a4:ByteArray) (a5:Int):Option (Int × Int) :=
  (m_rehearse_keeperOf a0 a1 a2).bind fun y3=>optB y3.1 (ifB (y3.2 != 0) (some (0,y3.2)) (((m_kit_IsKey a3).bind fun y17=>ifB (!y17) (some (.inl true)) ((m_kit_IsKey a4).bind fun y18=>some (.inl (!y18))):Option (Bool ⊕ (Int × Int))).bind fun k16=>Sum.fin k16 fun u14=>ifB u14 (some (0,5)) ((m_kit_IsMoment a5).bind fun y19=>ifB (!y19) (some (0,1)) ((m_slices_IndexFunc_api_Sings_api_Sings__rehearse_Rehearsed_1 a1 a3 a4).bind fun y20=>ifB (decide (y20<0)) (some (0,0)) ((getI a1 y20).bind fun e21=>none))))) (fun t4=>anyOrd t4 fun q27=>ifB (y3.2 != 0) (some (0,y3.2)) (((m_kit_IsKey a3).bind fun y32=>ifB (!y32) (some (.inl true)) ((m_kit_IsKey a4).bind fun y33=>some (.inl (!y33))):Option (Bool ⊕ (Int × Int))).bind fun k31=>Sum.fin k31 fun u29=>ifB u29 (some (0,5)) ((m_kit_IsMoment a5).bind fun y34=>ifB (!y34) (some (0,1)) ((m_slices_IndexFunc_api_Sings_api_Sings__rehearse_Rehearsed_1 a1 a3 a4).bind fun y35=>ifB (decide (y35<0)) (some (0,0)) ((getI a1 y35).bind fun e36=>(m_rehearse_keeper_rehearsed a0 a1 q27 e36 a5).bind fun y37=>some (y37,0))))))
def m_rehearse_CheckWishes_l1 (a0:(List TWish)) (i1:Nat) (x2:TWish) (u4:Unit):Option (Flow Unit Int) :=
  (m_kit_IsKey x2.Piece).bind fun y9=>ifB (!y9) (some (.ret 5)) ((m_kit_Outside x2.Need 1 86400000).bind fun y10=>ifB y10 (some (.ret 1)) (ifB (decide ((i1:Int)>0)) ((getI a0 (w64 ((i1:Int) - 1))).bind fun e11=>ifB (Op.bytesLess x2.Piece.toList e11.Piece.toList||x2.Piece.toList==e11.Piece.toList) (some (.ret 7)) (some (.nxt ()))) (some (.nxt ()))))
def m_rehearse_CheckWishes (a0:(List TWish)):Option Int :=
  ifB (decide ((a0.length:Int)>200)) (some 2) ((rangeM (m_rehearse_CheckWishes_l1 a0) 0 a0 ()).bind fun f7=>Flow.fin f7 fun u4=>some 0)
def m_rehearse_needOf_1 (a0:TWish) (a1:ByteArray):Option Int :=
  (m_strings_Compare a0.Piece a1).bind fun y2=>some y2
def m_slices_BinarySearchFunc_api_Wish_api_Wish_string__rehearse_needOf_1_l1 (a0:(List TWish)) (a1:ByteArray) (u1:(Int × Int)):Option (Flow (Int × Int) (Int × Bool)) :=
  ifB (decide (u1.1<u1.2)) ((shrM (IntKind.wrap .u64 (w64 (u1.1+u1.2))) 1).bind fun z5=>(getI a0 (IntKind.wrap .i64 z5)).bind fun e6=>(m_rehearse_needOf_1 e6 a1).bind fun y7=>ifB (decide (y7<0)) (some (.nxt (w64 ((IntKind.wrap .i64 z5)+1),u1.2))) (some (.nxt (u1.1,(IntKind.wrap .i64 z5))))) (some (.brk (u1.1,u1.2)))
def m_slices_BinarySearchFunc_api_Wish_api_Wish_string__rehearse_needOf_1 (a0:(List TWish)) (a1:ByteArray):Option (Int × Bool) :=
  (loopM (m_slices_BinarySearchFunc_api_Wish_api_Wish_string__rehearse_needOf_1_l1 a0 a1) (0,(a0.length:Int))).bind fun f4=>Flow.fin f4 fun u1=>ifB (decide (u1.1<(a0.length:Int))) ((getI a0 u1.1).bind fun e8=>(m_rehearse_needOf_1 e8 a1).bind fun y9=>some (u1.1,y9==0)) (some (u1.1,false))
def m_rehearse_needOf (a0:(List TWish)) (a1:ByteArray):Option (Int × Bool) :=
  (m_slices_BinarySearchFunc_api_Wish_api_Wish_string__rehearse_needOf_1 a0 a1).bind fun y1=>ifB (!y1.2) (some (1,false)) ((getI a0 y1.1).bind fun e2=>some (e2.Need,true))
def m_rehearse_Ready_l1 (a4:ByteArray) (i20:Nat) (x21:TSings) (u24:(List ByteArray)):Option (Flow (List ByteArray) ((List ByteArray) × Int)) :=
  (ifB (x21.Piece.toList==a4.toList) (none) (some (.inl false)):Option (Bool ⊕ (Flow (List ByteArray) ((List ByteArray) × Int)))).bind fun k32=>Sum.fin k32 fun u30=>ifB u30 ((appM 16 u24 [x21.Singer]).bind fun q34=>some (.nxt q34)) (some (.nxt u24))
def m_rehearse_Ready_l2 (a0:(List TSlot)) (a1:(List TSings)) (a4:ByteArray) (a5:Int) (q42:(List (ByteArray × (List TWindow)))) (y51:(Int × Bool)) (i52:Nat) (x53:TSings) (u56:(List ByteArray)):Option (Flow (List ByteArray) ((List ByteArray) × Int)) :=
  (ifB (x53.Piece.toList==a4.toList) ((m_rehearse_keeper_rehearsed a0 a1 q42 x53 a5).bind fun y65=>some (.inl (decide (y65≥y51.1)))) (some (.inl false)):Option (Bool ⊕ (Flow (List ByteArray) ((List ByteArray) × Int)))).bind fun k64=>Sum.fin k64 fun u62=>ifB u62 ((appM 16 u56 [x53.Singer]).bind fun q67=>some (.nxt q67)) (some (.nxt u56))
def m_rehearse_Ready (a0:(List TSlot)) (a1:(List TSings)) (a2:(List TCame)) (a3:(List TWish)) (a4:ByteArray) (a5:Int):Option ((List ByteArray) × Int) :=
  (m_rehearse_keeperOf a0 a1 a2).bind fun y1=>optB y1.1 (ifB (y1.2 != 0) (some ([],y1.2)) ((m_rehearse_CheckWishes a3).bind fun y13=>ifB (y13 != 0) (some ([],y13)) ((m_kit_IsKey a4).bind fun y15=>ifB (!y15) (some ([],5)) ((m_kit_IsMoment a5).bind fun y17=>ifB (!y17) (some ([],1)) ((m_rehearse_needOf a3 a4).bind fun y19=>(rangeM (m_rehearse_Ready_l1 a4) 0 a1 []).bind fun f27=>Flow.fin f27 fun u24=>some (u24,0)))))) (fun t2=>anyOrd t2 fun q42=>ifB (y1.2 != 0) (some ([],y1.2)) ((m_rehearse_CheckWishes a3).bind fun y45=>ifB (y45 != 0) (some ([],y45)) ((m_kit_IsKey a4).bind fun y47=>ifB (!y47) (some ([],5)) ((m_kit_IsMoment a5).bind fun y49=>ifB (!y49) (some ([],1)) ((m_rehearse_needOf a3 a4).bind fun y51=>(rangeM (m_rehearse_Ready_l2 a0 a1 a4 a5 q42 y51) 0 a1 []).bind fun f59=>Flow.fin f59 fun u56=>some (u56,0))))))
def m_rehearse_Lacking_1 (a0:Trehearse_lacking) (a1:Trehearse_lacking):Option Int :=
  (m_cmp_Compare_int a1.many a0.many).bind fun y3=>(m_strings_Compare a0.piece a1.piece).bind fun y4=>(m_cmp_Or_int [y3,y4]).bind fun y6=>some y6
def m_slices_insertionSortCmpFunc_rehearse_lacking__rehearse_Lacking_1_l2 (a1:Int) (u5:(Int × (List Trehearse_lacking))):Option (Flow (Int × (List Trehearse_lacking)) (Flow (Int × (List Trehearse_lacking)) (List Trehearse_lacking))) :=
  ifB (decide (u5.1>a1)) ((getI u5.2 u5.1).bind fun e9=>(getI u5.2 (w64 (u5.1 - 1))).bind fun e10=>(m_rehearse_Lacking_1 e9 e10).bind fun y11=>ifB (decide (y11<0)) ((getI u5.2 (w64 (u5.1 - 1))).bind fun e12=>(getI u5.2 u5.1).bind fun e13=>(getI u5.2 u5.1).bind fun e14=>(getI (u5.2.set u5.1.toNat e12) (w64 (u5.1 - 1))).bind fun e15=>some (.nxt (w64 (u5.1 - 1),((u5.2.set u5.1.toNat e12).set ((w64 (u5.1 - 1)).toNat) e13)))) (some (.brk (u5.1,u5.2)))) (some (.brk (u5.1,u5.2)))
def m_slices_insertionSortCmpFunc_rehearse_lacking__rehearse_Lacking_1_l1 (a1:Int) (a2:Int) (u1:(Int × (List Trehearse_lacking))):Option (Flow (Int × (List Trehearse_lacking)) (List Trehearse_lacking)) :=
  ifB (decide (u1.1<a2)) ((loopM (m_slices_insertionSortCmpFunc_rehearse_lacking__rehearse_Lacking_1_l2 a1) (u1.1,u1.2)).bind fun f8=>Flow.fin f8 fun u5=>some (.nxt (w64 (u1.1+1),u5.2))) (some (.brk (u1.1,u1.2)))
def m_slices_insertionSortCmpFunc_rehearse_lacking__rehearse_Lacking_1 (a0:(List Trehearse_lacking)) (a1:Int) (a2:Int):Option (List Trehearse_lacking) :=
  (loopM (m_slices_insertionSortCmpFunc_rehearse_lacking__rehearse_Lacking_1_l1 a1 a2) (w64 (a1+1),a0)).bind fun f4=>Flow.fin f4 fun u1=>some u1.2
def m_slices_pdqsortCmpFunc_rehearse_lacking__rehearse_Lacking_1_l1 (a0:(List Trehearse_lacking)) (a1:Int) (a2:Int) (a3:Int) (u1:Unit):Option (Flow Unit (List Trehearse_lacking)) :=
  ifB (decide ((w64 (a2 - a1))≤12)) ((m_slices_insertionSortCmpFunc_rehearse_lacking__rehearse_Lacking_1 a0 a1 a2).bind fun y5=>some (.ret y5)) (ifB (a3==0) (none) ((ifB (!true) (none) (some (.inl ())):Option (Unit ⊕ (Flow Unit (List Trehearse_lacking)))).bind fun k8=>Sum.fin k8 fun u6=>none))
def m_slices_pdqsortCmpFunc_rehearse_lacking__rehearse_Lacking_1 (a0:(List Trehearse_lacking)) (a1:Int) (a2:Int) (a3:Int):Option (List Trehearse_lacking) :=
  (loopM (m_slices_pdqsortCmpFunc_rehearse_lacking__rehearse_Lacking_1_l1 a0 a1 a2 a3) ()).bind fun f4=>Flow.fin f4 fun u1=>some a0
def m_slices_SortFunc_rehearse_lacking_rehearse_lacking__rehearse_Lacking_1 (a0:(List Trehearse_lacking)):Option (List Trehearse_lacking) :=
  (m_bits_Len (IntKind.wrap .u64 (a0.length:Int))).bind fun y1=>(m_slices_pdqsortCmpFunc_rehearse_lacking__rehearse_Lacking_1 a0 0 (a0.length:Int) y1).bind fun y2=>some y2
def m_rehearse_Lacking_l3  (i45:Nat) (x46:Trehearse_lacking) (u49:(List TPair)):Option (Flow (List TPair) ((List TPair) × Int)) :=
  (m_strconv_Itoa x46.many).bind fun y55=>(appM 32 u49 [(TPair.mk x46.piece y55)]).bind fun q57=>some (.nxt q57)
def m_rehearse_Lacking_l2  (i29:Nat) (x30:(ByteArray × Int)) (u35:(List Trehearse_lacking)):Option (Flow (List Trehearse_lacking) ((List TPair) × Int)) :=
  (appM 24 u35 [(Trehearse_lacking.mk x30.1 x30.2)]).bind fun q41=>some (.nxt q41)
def m_rehearse_Lacking_l1 (a3:(List TWish)) (i18:Nat) (x19:TSings) (u21:Unit):Option (Flow Unit ((List TPair) × Int)) :=
  (m_rehearse_needOf a3 x19.Piece).bind fun y26=>ifB y26.2 (none) (some (.nxt ()))
def m_rehearse_Lacking_l6  (i110:Nat) (x111:Trehearse_lacking) (u114:(List TPair)):Option (Flow (List TPair) ((List TPair) × Int)) :=
  (m_strconv_Itoa x111.many).bind fun y120=>(appM 32 u114 [(TPair.mk x111.piece y120)]).bind fun q122=>some (.nxt q122)
def m_rehearse_Lacking_l5  (i94:Nat) (x95:(ByteArray × Int)) (u100:(List Trehearse_lacking)):Option (Flow (List Trehearse_lacking) ((List TPair) × Int)) :=
  (appM 24 u100 [(Trehearse_lacking.mk x95.1 x95.2)]).bind fun q106=>some (.nxt q106)
def m_rehearse_Lacking_l4 (a0:(List TSlot)) (a1:(List TSings)) (a3:(List TWish)) (a4:Int) (q69:(List (ByteArray × (List TWindow)))) (i77:Nat) (x78:TSings) (u80:(List (ByteArray × Int))):Option (Flow (List (ByteArray × Int)) ((List TPair) × Int)) :=
  (m_rehearse_needOf a3 x78.Piece).bind fun y85=>ifB y85.2 ((m_rehearse_keeper_rehearsed a0 a1 q69 x78 a4).bind fun y86=>(m_rehearse_flagNumber (decide (y86<y85.1))).bind fun y87=>some (.nxt (putM u80 x78.Piece (w64 (((lkM u80 x78.Piece).getD 0)+y87))))) (some (.nxt u80))
def m_rehearse_Lacking (a0:(List TSlot)) (a1:(List TSings)) (a2:(List TCame)) (a3:(List TWish)) (a4:Int):Option ((List TPair) × Int) :=
  (m_rehearse_keeperOf a0 a1 a2).bind fun y1=>optB y1.1 (ifB (y1.2 != 0) (some ([],y1.2)) ((m_rehearse_CheckWishes a3).bind fun y13=>ifB (y13 != 0) (some ([],y13)) ((m_kit_IsMoment a4).bind fun y15=>ifB (!y15) (some ([],1)) ((rangeM (m_rehearse_Lacking_l1 a3) 0 a1 ()).bind fun f24=>Flow.fin f24 fun u21=>anyOrd [] fun L38=>(rangeM m_rehearse_Lacking_l2 0 L38 []).bind fun f63=>Flow.fin f63 fun u35=>(m_slices_SortFunc_rehearse_lacking_rehearse_lacking__rehearse_Lacking_1 u35).bind fun y44=>(rangeM m_rehearse_Lacking_l3 0 y44 []).bind fun f52=>Flow.fin f52 fun u49=>some (u49,0))))) (fun t2=>anyOrd t2 fun q69=>ifB (y1.2 != 0) (some ([],y1.2)) ((m_rehearse_CheckWishes a3).bind fun y72=>ifB (y72 != 0) (some ([],y72)) ((m_kit_IsMoment a4).bind fun y74=>ifB (!y74) (some ([],1)) ((rangeM (m_rehearse_Lacking_l4 a0 a1 a3 a4 q69) 0 a1 []).bind fun f83=>Flow.fin f83 fun u80=>anyOrd u80 fun L103=>(rangeM m_rehearse_Lacking_l5 0 L103 []).bind fun f128=>Flow.fin f128 fun u100=>(m_slices_SortFunc_rehearse_lacking_rehearse_lacking__rehearse_Lacking_1 u100).bind fun y109=>(rangeM m_rehearse_Lacking_l6 0 y109 []).bind fun f117=>Flow.fin f117 fun u114=>some (u114,0)))))
def m_rehearse_slotAt_1 (a0:TSlot) (a1_0:ByteArray):Option Bool :=
  some (a0.Key.toList==a1_0.toList)
def m_slices_IndexFunc_api_Slot_api_Slot__rehearse_slotAt_1_l1 (a1_c0_0:ByteArray) (i1:Nat) (x2:TSlot) (u4:Unit):Option (Flow Unit Int) :=
  (m_rehearse_slotAt_1 x2 a1_c0_0).bind fun y8=>ifB y8 (some (.ret (i1:Int))) (some (.nxt ()))
def m_slices_IndexFunc_api_Slot_api_Slot__rehearse_slotAt_1 (a0:(List TSlot)) (a1_c0_0:ByteArray):Option Int :=
  (rangeM (m_slices_IndexFunc_api_Slot_api_Slot__rehearse_slotAt_1_l1 a1_c0_0) 0 a0 ()).bind fun f7=>Flow.fin f7 fun u4=>some (-1)
def m_rehearse_slotAt (a0:(List TSlot)) (a1:ByteArray):Option Int :=
  (m_slices_IndexFunc_api_Slot_api_Slot__rehearse_slotAt_1 a0 a1).bind fun y2=>some y2
def m_rehearse_asked_l1 (a0:TSlot) (i2:Nat) (x3:TSings) (u6:(List ByteArray)):Option (Flow (List ByteArray) (List ByteArray)) :=
  (m_rehearse_isAsked a0 x3).bind fun y12=>ifB y12 ((appM 16 u6 [x3.Singer]).bind fun q14=>some (.nxt q14)) (some (.nxt u6))
def m_rehearse_asked (a0:TSlot) (a1:(List TSings)):Option (List ByteArray) :=
  (rangeM (m_rehearse_asked_l1 a0) 0 a1 []).bind fun f9=>Flow.fin f9 fun u6=>some u6
def m_rehearse_Absent_l1  (i18:Nat) (x19:ByteArray) (u21:Unit):Option (Flow Unit ((List ByteArray) × Int)) :=
  none
def m_rehearse_Absent_l2 (a0:(List TSlot)) (q31:(List (ByteArray × (List TWindow)))) (y34:Int) (i39:Nat) (x40:ByteArray) (u43:(List ByteArray)):Option (Flow (List ByteArray) ((List ByteArray) × Int)) :=
  (getI a0 y34).bind fun e48=>(m_rehearse_within ((lkM q31 x40).getD []) e48.Time).bind fun y49=>ifB ((y49.length:Int)==0) ((appM 16 u43 [x40]).bind fun q52=>some (.nxt q52)) (some (.nxt u43))
def m_rehearse_Absent (a0:(List TSlot)) (a1:(List TSings)) (a2:(List TCame)) (a3:ByteArray):Option ((List ByteArray) × Int) :=
  (m_rehearse_keeperOf a0 a1 a2).bind fun y1=>optB y1.1 (ifB (y1.2 != 0) (some ([],y1.2)) ((m_rehearse_slotAt a0 a3).bind fun y13=>ifB (decide (y13<0)) (some ([],8)) ((getI a0 y13).bind fun e15=>(m_rehearse_asked e15 a1).bind fun y16=>(rangeM m_rehearse_Absent_l1 0 y16 ()).bind fun f24=>Flow.fin f24 fun u21=>some ([],0)))) (fun t2=>anyOrd t2 fun q31=>ifB (y1.2 != 0) (some ([],y1.2)) ((m_rehearse_slotAt a0 a3).bind fun y34=>ifB (decide (y34<0)) (some ([],8)) ((getI a0 y34).bind fun e36=>(m_rehearse_asked e36 a1).bind fun y37=>(rangeM (m_rehearse_Absent_l2 a0 q31 y34) 0 y37 []).bind fun f46=>Flow.fin f46 fun u43=>some (u43,0))))
def m_gleeref2_in (a0:Int) (a1:Int) (a2:Int):Option Bool :=
  ifB (decide (a1≤a0)) (some (decide (a0≤a2))) (some false)
def m_gleeref2_only_l1 (a0:ByteArray) (a1:ByteArray) (i1:Nat) (x2:Nat) (u4:Unit):Option (Flow Unit Bool) :=
  (strI a0 (i1:Int)).bind fun c8=>(m_strings_IndexByte a1 c8).bind fun y9=>ifB (decide (y9<0)) (some (.ret false)) (some (.nxt ()))
def m_gleeref2_only (a0:ByteArray) (a1:ByteArray):Option Bool :=
  (rangeI (a0.size:Int)).bind fun L10=>(rangeM (m_gleeref2_only_l1 a0 a1) 0 L10 ()).bind fun f7=>Flow.fin f7 fun u4=>some true
def m_gleeref2_Key (a0:ByteArray):Option Bool :=
  (m_gleeref2_in (a0.size:Int) 1 40).bind fun y1=>ifB y1 ((strS a0 0 1).bind fun c2=>(m_gleeref2_only c2 (ByteArray.mk [97,98,99,100,101,102,103,104,105,106,107,108,109,110,111,112,113,114,115,116,117,118,119,120,121,122].toArray)).bind fun y3=>ifB y3 ((m_gleeref2_only a0 (ByteArray.mk [97,98,99,100,101,102,103,104,105,106,107,108,109,110,111,112,113,114,115,116,117,118,119,120,121,122,48,49,50,51,52,53,54,55,56,57,45,95].toArray)).bind fun y4=>some y4) (some false)) (some false)
def m_gleeref2_SlotAt_1 (a0:TSlot) (a1_0:ByteArray):Option Bool :=
  some (a0.Key.toList==a1_0.toList)
def m_slices_IndexFunc_api_Slot_api_Slot__gleeref2_SlotAt_1_l1 (a1_c0_0:ByteArray) (i1:Nat) (x2:TSlot) (u4:Unit):Option (Flow Unit Int) :=
  (m_gleeref2_SlotAt_1 x2 a1_c0_0).bind fun y8=>ifB y8 (some (.ret (i1:Int))) (some (.nxt ()))
def m_slices_IndexFunc_api_Slot_api_Slot__gleeref2_SlotAt_1 (a0:(List TSlot)) (a1_c0_0:ByteArray):Option Int :=
  (rangeM (m_slices_IndexFunc_api_Slot_api_Slot__gleeref2_SlotAt_1_l1 a1_c0_0) 0 a0 ()).bind fun f7=>Flow.fin f7 fun u4=>some (-1)
def m_gleeref2_SlotAt (a0:(List TSlot)) (a1:ByteArray):Option Int :=
  (m_slices_IndexFunc_api_Slot_api_Slot__gleeref2_SlotAt_1 a0 a1).bind fun y2=>some y2
def m_gleeref2_Rising_l1 (a0:(List ByteArray)) (i1:Nat) (x2:ByteArray) (u4:Unit):Option (Flow Unit Int) :=
  (m_gleeref2_Key x2).bind fun y8=>ifB (!y8) (some (.ret 5)) ((ifB (decide ((i1:Int)>0)) ((getI a0 (w64 ((i1:Int) - 1))).bind fun e12=>some (.inl (Op.bytesLess x2.toList e12.toList||x2.toList==e12.toList))) (some (.inl false)):Option (Bool ⊕ (Flow Unit Int))).bind fun k11=>Sum.fin k11 fun u9=>ifB u9 (some (.ret 7)) (some (.nxt ())))
def m_gleeref2_Rising (a0:(List ByteArray)):Option Int :=
  (rangeM (m_gleeref2_Rising_l1 a0) 0 a0 ()).bind fun f7=>Flow.fin f7 fun u4=>some 0
def m_gleeref2_timeFault (a0:TWindow):Option Int :=
  (ifB (decide (a0.From<0)) (some (.inl true)) (ifB (decide (a0.From≥a0.To)) (some (.inl true)) (some (.inl (decide (a0.To>345686400000))))):Option (Bool ⊕ Int)).bind fun k4=>Sum.fin k4 fun u2=>ifB u2 (some 1) (some 0)
def m_gleeref2_meet (a0:TWindow) (a1:TWindow):Option Int :=
  some (max 0 (w64 ((min a0.To a1.To) - (max a0.From a1.From))))
def m_gleeref2_SlotsFault_1 (a0:TSlot) (a1_0:ByteArray) (a1_1:ByteArray) (a1_2:ByteArray) (a1_3:(List ByteArray)) (a1_4:Int) (a1_5:Int):Option Bool :=
  ifB (a0.Room.toList==a1_1.toList) ((m_gleeref2_meet a0.Time (TWindow.mk a1_4 a1_5)).bind fun y2=>some (decide (y2>0))) (some false)
def m_slices_IndexFunc_api_Slot_api_Slot__gleeref2_SlotsFault_1_l1 (a1_c0_0:ByteArray) (a1_c0_1:ByteArray) (a1_c0_2:ByteArray) (a1_c0_3:(List ByteArray)) (a1_c0_4:Int) (a1_c0_5:Int) (i1:Nat) (x2:TSlot) (u4:Unit):Option (Flow Unit Int) :=
  (m_gleeref2_SlotsFault_1 x2 a1_c0_0 a1_c0_1 a1_c0_2 a1_c0_3 a1_c0_4 a1_c0_5).bind fun y8=>ifB y8 (some (.ret (i1:Int))) (some (.nxt ()))
def m_slices_IndexFunc_api_Slot_api_Slot__gleeref2_SlotsFault_1 (a0:(List TSlot)) (a1_c0_0:ByteArray) (a1_c0_1:ByteArray) (a1_c0_2:ByteArray) (a1_c0_3:(List ByteArray)) (a1_c0_4:Int) (a1_c0_5:Int):Option Int :=
  (rangeM (m_slices_IndexFunc_api_Slot_api_Slot__gleeref2_SlotsFault_1_l1 a1_c0_0 a1_c0_1 a1_c0_2 a1_c0_3 a1_c0_4 a1_c0_5) 0 a0 ()).bind fun f7=>Flow.fin f7 fun u4=>some (-1)
def m_slices_ContainsFunc_api_Slot_api_Slot__gleeref2_SlotsFault_1 (a0:(List TSlot)) (a1_c0_0:ByteArray) (a1_c0_1:ByteArray) (a1_c0_2:ByteArray) (a1_c0_3:(List ByteArray)) (a1_c0_4:Int) (a1_c0_5:Int):Option Bool :=
  (m_slices_IndexFunc_api_Slot_api_Slot__gleeref2_SlotsFault_1 a0 a1_c0_0 a1_c0_1 a1_c0_2 a1_c0_3 a1_c0_4 a1_c0_5).bind fun y1=>some (decide (y1≥0))
def m_gleeref2_SlotsFault_l2 (a0:(List TSlot)) (i22:Nat) (x23:TSlot) (u25:Unit):Option (Flow Unit Int) :=
  (sliceI a0 0 (i22:Int)).bind fun q30=>(m_slices_ContainsFunc_api_Slot_api_Slot__gleeref2_SlotsFault_1 q30 x23.Key x23.Room x23.Piece x23.Parts x23.Time.From x23.Time.To).bind fun y31=>ifB y31 (some (.ret 13)) (some (.nxt ()))
def m_gleeref2_SlotsFault_l1 (a0:(List TSlot)) (i1:Nat) (x2:TSlot) (u4:Unit):Option (Flow Unit Int) :=
  ((m_gleeref2_Key x2.Key).bind fun y12=>ifB (!y12) (some (.inl true)) ((m_gleeref2_Key x2.Room).bind fun y13=>ifB (!y13) (some (.inl true)) ((m_gleeref2_Key x2.Piece).bind fun y14=>some (.inl (!y14)))):Option (Bool ⊕ (Flow Unit Int))).bind fun k11=>Sum.fin k11 fun u9=>ifB u9 (some (.ret 5)) ((sliceI a0 0 (i1:Int)).bind fun q15=>(m_gleeref2_SlotAt q15 x2.Key).bind fun y16=>ifB (decide (y16≥0)) (some (.ret 6)) (ifB (decide ((x2.Parts.length:Int)>12)) (some (.ret 2)) ((m_gleeref2_Rising x2.Parts).bind fun y17=>ifB (y17 != 0) (some (.ret y17)) ((m_gleeref2_timeFault x2.Time).bind fun y18=>ifB (y18 != 0) (some (.ret y18)) (ifB (decide ((i1:Int)>0)) ((getI a0 (w64 ((i1:Int) - 1))).bind fun e19=>ifB (decide (x2.Time.From<e19.Time.From)) (some (.ret 7)) ((getI a0 (w64 ((i1:Int) - 1))).bind fun e20=>ifB (x2.Time.From==e20.Time.From) ((getI a0 (w64 ((i1:Int) - 1))).bind fun e21=>ifB (Op.bytesLess x2.Key.toList e21.Key.toList||x2.Key.toList==e21.Key.toList) (some (.ret 7)) (some (.nxt ()))) (some (.nxt ())))) (some (.nxt ())))))))
def m_gleeref2_SlotsFault (a0:(List TSlot)):Option Int :=
  ifB (decide ((a0.length:Int)>300)) (some 2) ((rangeM (m_gleeref2_SlotsFault_l1 a0) 0 a0 ()).bind fun f7=>Flow.fin f7 fun u4=>(rangeM (m_gleeref2_SlotsFault_l2 a0) 0 a0 ()).bind fun f28=>Flow.fin f28 fun u25=>some 0)
def m_gleeref2_SingsFault_l1 (a0:(List TSings)) (i1:Nat) (x2:TSings) (u4:Unit):Option (Flow Unit Int) :=
  ((m_gleeref2_Key x2.Singer).bind fun y12=>ifB (!y12) (some (.inl true)) ((m_gleeref2_Key x2.Piece).bind fun y13=>ifB (!y13) (some (.inl true)) ((m_gleeref2_Key x2.Part).bind fun y14=>some (.inl (!y14)))):Option (Bool ⊕ (Flow Unit Int))).bind fun k11=>Sum.fin k11 fun u9=>ifB u9 (some (.ret 5)) (ifB ((i1:Int)==0) (some (.nxt ())) (((getI a0 (w64 ((i1:Int) - 1))).bind fun e18=>(getI a0 (w64 ((i1:Int) - 1))).bind fun e19=>(m_slices_Compare_string_string [e18.Singer,e19.Piece] [x2.Singer,x2.Piece]).bind fun y22=>some (.inl y22):Option (Int ⊕ (Flow Unit Int))).bind fun k17=>Sum.fin k17 fun u15=>ifB (u15==0) (some (.ret 6)) (ifB (decide (u15>0)) (some (.ret 7)) (some (.nxt ())))))
def m_gleeref2_SingsFault (a0:(List TSings)):Option Int :=
  ifB (decide ((a0.length:Int)>5000)) (some 2) ((rangeM (m_gleeref2_SingsFault_l1 a0) 0 a0 ()).bind fun f7=>Flow.fin f7 fun u4=>some 0)
def m_gleeref2_Moment (a0:Int):Option Bool :=
  (m_gleeref2_in a0 0 345686399999).bind fun y1=>some y1
def m_gleeref2_CameFault_l1 (a0:(List TCame)) (i1:Nat) (x2:TCame) (u4:Unit):Option (Flow Unit Int) :=
  (m_gleeref2_Moment x2.At).bind fun y9=>ifB (!y9) (some (.ret 1)) ((m_gleeref2_Key x2.Singer).bind fun y10=>ifB (!y10) (some (.ret 5)) (ifB (decide ((i1:Int)>0)) ((getI a0 (w64 ((i1:Int) - 1))).bind fun e11=>(m_gleeref2_cameOrder e11 x2).bind fun y12=>ifB (decide (y12≥0)) (some (.ret 7)) (some (.nxt ()))) (some (.nxt ()))))
def m_gleeref2_CameFault (a0:(List TCame)):Option Int :=
  ifB (decide ((a0.length:Int)>5000)) (some 2) ((rangeM (m_gleeref2_CameFault_l1 a0) 0 a0 ()).bind fun f7=>Flow.fin f7 fun u4=>some 0)
def m_gleelaw2_errs_l1  (i1:Nat) (x2:Int) (u4:Unit):Option (Flow Unit Int) :=
  ifB (x2 != 0) (some (.ret x2)) (some (.nxt ()))
def m_gleelaw2_errs (a0:(List Int)):Option Int :=
  (rangeM m_gleelaw2_errs_l1 0 a0 ()).bind fun f7=>Flow.fin f7 fun u4=>some 0
def m_gleelaw2_when (a0:Bool) (a1:Int):Option Int :=
  ifB a0 (some a1) (some 0)
def m_gleelaw2_nameFault (a0:ByteArray):Option Int :=
  (m_gleeref2_Key a0).bind fun y1=>(m_gleelaw2_when (!y1) 5).bind fun y2=>some y2
def m_gleeref2_MomentFault (a0:Int):Option Int :=
  (m_gleeref2_Moment a0).bind fun y1=>ifB (!y1) (some 1) (some 0)
def m_gleeref2_WishesFault_l1  (i1:Nat) (x2:TWish) (u4:ByteArray):Option (Flow ByteArray Int) :=
  (m_gleeref2_Key x2.Piece).bind fun y9=>ifB (!y9) (some (.ret 5)) ((m_gleeref2_in x2.Need 1 86400000).bind fun y10=>ifB (!y10) (some (.ret 1)) (ifB (Op.bytesLess x2.Piece.toList u4.toList||x2.Piece.toList==u4.toList) (some (.ret 7)) (some (.nxt x2.Piece))))
def m_gleeref2_WishesFault (a0:(List TWish)):Option Int :=
  ifB (decide ((a0.length:Int)>200)) (some 2) ((rangeM m_gleeref2_WishesFault_l1 0 a0 ByteArray.empty).bind fun f7=>Flow.fin f7 fun u4=>some 0)
def m_gleeref2_AskedTo_l1 (a0:TSlot) (i2:Nat) (x3:TSings) (u6:(List ByteArray)):Option (Flow (List ByteArray) (List ByteArray)) :=
  (ifB (x3.Piece.toList==a0.Piece.toList) (ifB ((a0.Parts.length:Int)==0) (some (.inl true)) ((m_slices_Contains_string_string a0.Parts x3.Part).bind fun y15=>some (.inl y15))) (some (.inl false)):Option (Bool ⊕ (Flow (List ByteArray) (List ByteArray)))).bind fun k14=>Sum.fin k14 fun u12=>ifB u12 ((appM 16 u6 [x3.Singer]).bind fun q17=>some (.nxt q17)) (some (.nxt u6))
def m_gleeref2_AskedTo (a0:TSlot) (a1:(List TSings)):Option (List ByteArray) :=
  (rangeM (m_gleeref2_AskedTo_l1 a0) 0 a1 []).bind fun f9=>Flow.fin f9 fun u6=>some u6
def m_gleeref2_RehearsedOf_1 (a0:TSlot) (a1_0:ByteArray) (a2_0:Int) (a2_1:Int) (a3_0:(List TSings)) (a4_0:ByteArray):Option Bool :=
  (ifB (a0.Piece.toList==a1_0.toList) ((m_gleeref2_meet a0.Time (TWindow.mk a2_0 a2_1)).bind fun y5=>ifB (decide (y5>0)) ((m_gleeref2_AskedTo a0 a3_0).bind fun y6=>(m_slices_Contains_string_string y6 a4_0).bind fun y8=>some (.inl y8)) (some (.inl false))) (some (.inl false)):Option (Bool ⊕ Bool)).bind fun k4=>Sum.fin k4 fun u2=>some u2
def m_slices_IndexFunc_api_Slot_api_Slot__gleeref2_RehearsedOf_1_l1 (a1_c0_0:ByteArray) (a1_c1_0:Int) (a1_c1_1:Int) (a1_c2_0:(List TSings)) (a1_c3_0:ByteArray) (i1:Nat) (x2:TSlot) (u4:Unit):Option (Flow Unit Int) :=
  (m_gleeref2_RehearsedOf_1 x2 a1_c0_0 a1_c1_0 a1_c1_1 a1_c2_0 a1_c3_0).bind fun y8=>ifB y8 (some (.ret (i1:Int))) (some (.nxt ()))
def m_slices_IndexFunc_api_Slot_api_Slot__gleeref2_RehearsedOf_1 (a0:(List TSlot)) (a1_c0_0:ByteArray) (a1_c1_0:Int) (a1_c1_1:Int) (a1_c2_0:(List TSings)) (a1_c3_0:ByteArray):Option Int :=
  (rangeM (m_slices_IndexFunc_api_Slot_api_Slot__gleeref2_RehearsedOf_1_l1 a1_c0_0 a1_c1_0 a1_c1_1 a1_c2_0 a1_c3_0) 0 a0 ()).bind fun f7=>Flow.fin f7 fun u4=>some (-1)
def m_slices_ContainsFunc_api_Slot_api_Slot__gleeref2_RehearsedOf_1 (a0:(List TSlot)) (a1_c0_0:ByteArray) (a1_c1_0:Int) (a1_c1_1:Int) (a1_c2_0:(List TSings)) (a1_c3_0:ByteArray):Option Bool :=
  (m_slices_IndexFunc_api_Slot_api_Slot__gleeref2_RehearsedOf_1 a0 a1_c0_0 a1_c1_0 a1_c1_1 a1_c2_0 a1_c3_0).bind fun y1=>some (decide (y1≥0))
def m_gleeref2_thereAt_l1 (a1:ByteArray) (a2:Int) (i1:Nat) (x2:TCame) (u4:Bool):Option (Flow Bool Bool) :=
  (ifB (x2.Singer.toList==a1.toList) (some (.inl (decide (x2.At≤a2)))) (some (.inl false)):Option (Bool ⊕ (Flow Bool Bool))).bind fun k11=>Sum.fin k11 fun u9=>ifB u9 (some (.nxt (!x2.Left))) (some (.nxt u4))
def m_gleeref2_thereAt (a0:(List TCame)) (a1:ByteArray) (a2:Int):Option Bool :=
  (rangeM (m_gleeref2_thereAt_l1 a1 a2) 0 a0 false).bind fun f7=>Flow.fin f7 fun u4=>some u4
def m_gleeref2_PresentOf_l2 (a0:(List TCame)) (a1:ByteArray) (y20:(List Int)) (u23:(Int × (List TWindow))):Option (Flow (Int × (List TWindow)) (List TWindow)) :=
  ifB (decide ((w64 (u23.1+1))<(y20.length:Int))) ((getI y20 u23.1).bind fun e28=>(m_gleeref2_thereAt a0 a1 e28).bind fun y29=>ifB (!y29) (some (.nxt (w64 (u23.1+1),u23.2))) (ifB (decide ((w64 ((u23.2.length:Int) - 1))≥0)) ((getI u23.2 (w64 ((u23.2.length:Int) - 1))).bind fun e30=>(getI y20 u23.1).bind fun e31=>ifB (e30.To==e31) ((getI y20 (w64 (u23.1+1))).bind fun e32=>(getI u23.2 (w64 ((u23.2.length:Int) - 1))).bind fun e33=>some (.nxt (w64 (u23.1+1),(u23.2.set ((w64 ((u23.2.length:Int) - 1)).toNat) (TWindow.mk e33.From e32))))) ((getI y20 u23.1).bind fun e34=>(getI y20 (w64 (u23.1+1))).bind fun e35=>(appM 16 u23.2 [(TWindow.mk e34 e35)]).bind fun q37=>some (.nxt (w64 (u23.1+1),q37)))) ((getI y20 u23.1).bind fun e43=>(getI y20 (w64 (u23.1+1))).bind fun e44=>(appM 16 u23.2 [(TWindow.mk e43 e44)]).bind fun q46=>some (.nxt (w64 (u23.1+1),q46))))) (some (.brk (u23.1,u23.2)))
def m_gleeref2_PresentOf_l1 (a1:ByteArray) (a2:TWindow) (i3:Nat) (x4:TCame) (u6:(List Int)):Option (Flow (List Int) (List TWindow)) :=
  (ifB (x4.Singer.toList==a1.toList) (ifB (decide (a2.From<x4.At)) (some (.inl (decide (x4.At<a2.To)))) (some (.inl false))) (some (.inl false)):Option (Bool ⊕ (Flow (List Int) (List TWindow)))).bind fun k14=>Sum.fin k14 fun u12=>ifB u12 ((appM 8 u6 [x4.At]).bind fun q16=>some (.nxt q16)) (some (.nxt u6))
def m_gleeref2_PresentOf (a0:(List TCame)) (a1:ByteArray) (a2:TWindow):Option (List TWindow) :=
  (rangeM (m_gleeref2_PresentOf_l1 a1 a2) 0 a0 [a2.From,a2.To]).bind fun f9=>Flow.fin f9 fun u6=>(m_slices_Sort_int_int u6).bind fun y19=>(m_slices_Compact_int_int y19).bind fun y20=>(loopM (m_gleeref2_PresentOf_l2 a0 a1 y20) (0,[])).bind fun f26=>Flow.fin f26 fun u23=>some u23.2
def m_gleeref2_RehearsedOf_l3  (i32:Nat) (x33:TWindow) (u35:Int):Option (Flow Int (Flow (Int × Int) Int)) :=
  some (.nxt (w64 (u35+(w64 (x33.To - x33.From)))))
def m_gleeref2_RehearsedOf_l4  (i47:Nat) (x48:TWindow) (u50:Int):Option (Flow Int (Flow (Int × Int) Int)) :=
  some (.nxt (w64 (u50+(w64 (x48.To - x48.From)))))
def m_gleeref2_RehearsedOf_l2 (a0:(List TSlot)) (a1:(List TSings)) (a2:(List TCame)) (a3:ByteArray) (a4:ByteArray) (y18:(List Int)) (u19:(Int × Int)):Option (Flow (Int × Int) Int) :=
  ifB (decide ((w64 (u19.2+1))<(y18.length:Int))) ((getI y18 u19.2).bind fun e23=>(getI y18 (w64 (u19.2+1))).bind fun e24=>(ifB (e23==e24) (some (.inl true)) ((m_slices_ContainsFunc_api_Slot_api_Slot__gleeref2_RehearsedOf_1 a0 a4 e23 e24 a1 a3).bind fun y29=>some (.inl (!y29))):Option (Bool ⊕ (Flow (Int × Int) Int))).bind fun k28=>Sum.fin k28 fun u26=>ifB u26 (some (.nxt (u19.1,w64 (u19.2+1)))) ((m_gleeref2_PresentOf a2 a3 (TWindow.mk e23 e24)).bind fun y30=>(rangeM m_gleeref2_RehearsedOf_l3 0 y30 u19.1).bind fun f38=>Flow.fin f38 fun u35=>some (.nxt (u35,w64 (u19.2+1))))) (some (.brk (u19.1,u19.2)))
def m_gleeref2_RehearsedOf_l1 (a5:Int) (i5:Nat) (x6:TSlot) (u8:(List Int)):Option (Flow (List Int) Int) :=
  (appM 8 u8 [min a5 x6.Time.From,min a5 x6.Time.To]).bind fun q15=>some (.nxt q15)
def m_gleeref2_RehearsedOf (a0:(List TSlot)) (a1:(List TSings)) (a2:(List TCame)) (a3:ByteArray) (a4:ByteArray) (a5:Int):Option Int :=
  (rangeM (m_gleeref2_RehearsedOf_l1 a5) 0 a0 [a5]).bind fun f11=>Flow.fin f11 fun u8=>(m_slices_Sort_int_int u8).bind fun y18=>(loopM (m_gleeref2_RehearsedOf_l2 a0 a1 a2 a3 a4 y18) (0,0)).bind fun f22=>Flow.fin f22 fun u19=>some u19.1
def m_gleeref2_singersOf (a0:(List TSings)) (a1:ByteArray):Option (List ByteArray) :=
  (m_gleeref2_AskedTo (TSlot.mk ByteArray.empty ByteArray.empty a1 [] (TWindow.mk 0 0)) a0).bind fun y2=>some y2
def m_gleeref2_needOf_l1 (a1:ByteArray) (i1:Nat) (x2:TWish) (u4:Unit):Option (Flow Unit Int) :=
  ifB (x2.Piece.toList==a1.toList) (some (.ret x2.Need)) (some (.nxt ()))
def m_gleeref2_needOf (a0:(List TWish)) (a1:ByteArray):Option Int :=
  (rangeM (m_gleeref2_needOf_l1 a1) 0 a0 ()).bind fun f7=>Flow.fin f7 fun u4=>some 0
def m_gleeref2_ReadyOf_1 (a0:ByteArray) (a1_0:(List TSlot)) (a2_0:(List TSings)) (a3_0:(List TCame)) (a4_0:ByteArray) (a5_0:Int) (a6_0:(List TWish)):Option Bool :=
  (m_gleeref2_RehearsedOf a1_0 a2_0 a3_0 a0 a4_0 a5_0).bind fun y1=>(m_gleeref2_needOf a6_0 a4_0).bind fun y2=>some (decide (y1<(max 1 y2)))
def m_slices_IndexFunc_string_string__gleeref2_ReadyOf_1_l1 (a1_c0_0:(List TSlot)) (a1_c1_0:(List TSings)) (a1_c2_0:(List TCame)) (a1_c3_0:ByteArray) (a1_c4_0:Int) (a1_c5_0:(List TWish)) (i1:Nat) (x2:ByteArray) (u4:Unit):Option (Flow Unit Int) :=
  (m_gleeref2_ReadyOf_1 x2 a1_c0_0 a1_c1_0 a1_c2_0 a1_c3_0 a1_c4_0 a1_c5_0).bind fun y8=>ifB y8 (some (.ret (i1:Int))) (some (.nxt ()))
def m_slices_IndexFunc_string_string__gleeref2_ReadyOf_1 (a0:(List ByteArray)) (a1_c0_0:(List TSlot)) (a1_c1_0:(List TSings)) (a1_c2_0:(List TCame)) (a1_c3_0:ByteArray) (a1_c4_0:Int) (a1_c5_0:(List TWish)):Option Int :=
  (rangeM (m_slices_IndexFunc_string_string__gleeref2_ReadyOf_1_l1 a1_c0_0 a1_c1_0 a1_c2_0 a1_c3_0 a1_c4_0 a1_c5_0) 0 a0 ()).bind fun f7=>Flow.fin f7 fun u4=>some (-1)
def m_slices_DeleteFunc_string_string__gleeref2_ReadyOf_1_l1 (a1_c0_0:(List TSlot)) (a1_c1_0:(List TSings)) (a1_c2_0:(List TCame)) (a1_c3_0:ByteArray) (a1_c4_0:Int) (a1_c5_0:(List TWish)) (u2:(Int × Int × (List ByteArray))):Option (Flow (Int × Int × (List ByteArray)) (List ByteArray)) :=
  ifB (decide (u2.2.1<(u2.2.2.length:Int))) ((getI u2.2.2 u2.2.1).bind fun e6=>(m_gleeref2_ReadyOf_1 e6 a1_c0_0 a1_c1_0 a1_c2_0 a1_c3_0 a1_c4_0 a1_c5_0).bind fun y7=>ifB (!y7) ((getI u2.2.2 u2.1).bind fun e8=>some (.nxt (w64 (u2.1+1),w64 (u2.2.1+1),(u2.2.2.set u2.1.toNat e6)))) (some (.nxt (u2.1,w64 (u2.2.1+1),u2.2.2)))) (some (.brk (u2.1,u2.2.1,u2.2.2)))
def m_slices_DeleteFunc_string_string__gleeref2_ReadyOf_1 (a0:(List ByteArray)) (a1_c0_0:(List TSlot)) (a1_c1_0:(List TSings)) (a1_c2_0:(List TCame)) (a1_c3_0:ByteArray) (a1_c4_0:Int) (a1_c5_0:(List TWish)):Option (List ByteArray) :=
  (m_slices_IndexFunc_string_string__gleeref2_ReadyOf_1 a0 a1_c0_0 a1_c1_0 a1_c2_0 a1_c3_0 a1_c4_0 a1_c5_0).bind fun y1=>ifB (y1==(-1)) (some a0) ((loopM (m_slices_DeleteFunc_string_string__gleeref2_ReadyOf_1_l1 a1_c0_0 a1_c1_0 a1_c2_0 a1_c3_0 a1_c4_0 a1_c5_0) (y1,w64 (y1+1),a0)).bind fun f5=>Flow.fin f5 fun u2=>(sliceI u2.2.2 u2.1 (u2.2.2.length:Int)).bind fun q9=>(sliceI (clearM ByteArray.empty u2.2.2 u2.1) 0 u2.1).bind fun q10=>some q10)
def m_gleeref2_ReadyOf (a0:(List TSlot)) (a1:(List TSings)) (a2:(List TCame)) (a3:(List TWish)) (a4:ByteArray) (a5:Int):Option (List ByteArray) :=
  (m_gleeref2_singersOf a1 a4).bind fun y7=>(m_slices_DeleteFunc_string_string__gleeref2_ReadyOf_1 y7 a0 a1 a2 a4 a5 a3).bind fun y9=>some y9
def m_gleeref2_LackingFor_1 (a0:TPair) (a1:TPair) (a2_0:(List (ByteArray × Int))):Option Int :=
  (m_gleeref2_sign (w64 (((lkM a2_0 a1.Name).getD 0) - ((lkM a2_0 a0.Name).getD 0)))).bind fun y3=>some y3
def m_slices_insertionSortCmpFunc_api_Pair__gleeref2_LackingFor_1_l2 (a1:Int) (a3_c0_0:(List (ByteArray × Int))) (u5:(Int × (List TPair))):Option (Flow (Int × (List TPair)) (Flow (Int × (List TPair)) (List TPair))) :=
  ifB (decide (u5.1>a1)) ((getI u5.2 u5.1).bind fun e9=>(getI u5.2 (w64 (u5.1 - 1))).bind fun e10=>(m_gleeref2_LackingFor_1 e9 e10 a3_c0_0).bind fun y11=>ifB (decide (y11<0)) ((getI u5.2 (w64 (u5.1 - 1))).bind fun e12=>(getI u5.2 u5.1).bind fun e13=>(getI u5.2 u5.1).bind fun e14=>(getI (u5.2.set u5.1.toNat e12) (w64 (u5.1 - 1))).bind fun e15=>some (.nxt (w64 (u5.1 - 1),((u5.2.set u5.1.toNat e12).set ((w64 (u5.1 - 1)).toNat) e13)))) (some (.brk (u5.1,u5.2)))) (some (.brk (u5.1,u5.2)))
def m_slices_insertionSortCmpFunc_api_Pair__gleeref2_LackingFor_1_l1 (a1:Int) (a2:Int) (a3_c0_0:(List (ByteArray × Int))) (u1:(Int × (List TPair))):Option (Flow (Int × (List TPair)) (List TPair)) :=
  ifB (decide (u1.1<a2)) ((loopM (m_slices_insertionSortCmpFunc_api_Pair__gleeref2_LackingFor_1_l2 a1 a3_c0_0) (u1.1,u1.2)).bind fun f8=>Flow.fin f8 fun u5=>some (.nxt (w64 (u1.1+1),u5.2))) (some (.brk (u1.1,u1.2)))
def m_slices_insertionSortCmpFunc_api_Pair__gleeref2_LackingFor_1 (a0:(List TPair)) (a1:Int) (a2:Int) (a3_c0_0:(List (ByteArray × Int))):Option (List TPair) :=
  (loopM (m_slices_insertionSortCmpFunc_api_Pair__gleeref2_LackingFor_1_l1 a1 a2 a3_c0_0) (w64 (a1+1),a0)).bind fun f4=>Flow.fin f4 fun u1=>some u1.2
def m_slices_stableCmpFunc_api_Pair__gleeref2_LackingFor_1_l3 (a1:Int) (u7:(Int × Int × Int)) (u11:Unit):Option (Flow Unit (Flow (Int × Int × Int) (List TPair))) :=
  ifB (decide ((w64 (2*u7.1))≤a1)) (none) (some (.brk ()))
def m_slices_stableCmpFunc_api_Pair__gleeref2_LackingFor_1_l2 (a1:Int) (u7:(Int × Int × Int)):Option (Flow (Int × Int × Int) (List TPair)) :=
  ifB (decide (u7.1<a1)) ((loopM (m_slices_stableCmpFunc_api_Pair__gleeref2_LackingFor_1_l3 a1 u7) ()).bind fun f14=>Flow.fin f14 fun u11=>ifB (decide ((w64 (0+u7.1))<a1)) (none) (some (.nxt (w64 (u7.1*2),0,w64 (2*u7.1))))) (some (.brk (u7.1,u7.2.1,u7.2.2)))
def m_slices_stableCmpFunc_api_Pair__gleeref2_LackingFor_1_l1 (a1:Int) (a2_c0_0:(List (ByteArray × Int))) (u1:(Int × Int × (List TPair))):Option (Flow (Int × Int × (List TPair)) (List TPair)) :=
  ifB (decide (u1.2.1≤a1)) ((m_slices_insertionSortCmpFunc_api_Pair__gleeref2_LackingFor_1 u1.2.2 u1.1 u1.2.1 a2_c0_0).bind fun y5=>some (.nxt (u1.2.1,w64 (u1.2.1+20),y5))) (some (.brk (u1.1,u1.2.1,u1.2.2)))
def m_slices_stableCmpFunc_api_Pair__gleeref2_LackingFor_1 (a0:(List TPair)) (a1:Int) (a2_c0_0:(List (ByteArray × Int))):Option (List TPair) :=
  (loopM (m_slices_stableCmpFunc_api_Pair__gleeref2_LackingFor_1_l1 a1 a2_c0_0) (0,20,a0)).bind fun f4=>Flow.fin f4 fun u1=>(m_slices_insertionSortCmpFunc_api_Pair__gleeref2_LackingFor_1 u1.2.2 u1.1 a1 a2_c0_0).bind fun y6=>(loopM (m_slices_stableCmpFunc_api_Pair__gleeref2_LackingFor_1_l2 a1) (20,u1.1,u1.2.1)).bind fun f10=>Flow.fin f10 fun u7=>some y6
def m_slices_SortStableFunc_api_Pair_api_Pair__gleeref2_LackingFor_1 (a0:(List TPair)) (a1_c0_0:(List (ByteArray × Int))):Option (List TPair) :=
  (m_slices_stableCmpFunc_api_Pair__gleeref2_LackingFor_1 a0 (a0.length:Int) a1_c0_0).bind fun y1=>some y1
def m_gleeref2_LackingFor_l1 (a0:(List TSlot)) (a1:(List TSings)) (a2:(List TCame)) (a3:(List TWish)) (a4:Int) (i3:Nat) (x4:TWish) (u7:((List (ByteArray × Int)) × (List TPair))):Option (Flow ((List (ByteArray × Int)) × (List TPair)) (List TPair)) :=
  (m_gleeref2_singersOf a1 x4.Piece).bind fun y13=>ifB (decide ((y13.length:Int)>0)) ((m_gleeref2_ReadyOf a0 a1 a2 a3 x4.Piece a4).bind fun y15=>(m_strconv_Itoa ((lkM (putM u7.1 x4.Piece (w64 ((y13.length:Int) - (y15.length:Int)))) x4.Piece).getD 0)).bind fun y19=>(appM 32 u7.2 [(TPair.mk x4.Piece y19)]).bind fun q21=>some (.nxt (putM u7.1 x4.Piece (w64 ((y13.length:Int) - (y15.length:Int))),q21))) (some (.nxt (u7.1,u7.2)))
def m_gleeref2_LackingFor (a0:(List TSlot)) (a1:(List TSings)) (a2:(List TCame)) (a3:(List TWish)) (a4:Int):Option (List TPair) :=
  (rangeM (m_gleeref2_LackingFor_l1 a0 a1 a2 a3 a4) 0 a3 ([],[])).bind fun f10=>Flow.fin f10 fun u7=>(m_slices_SortStableFunc_api_Pair_api_Pair__gleeref2_LackingFor_1 u7.2 u7.1).bind fun y37=>some y37
def m_gleeref2_AbsentFrom_1 (a0:ByteArray) (a1_0:(List TCame)) (a2_0:ByteArray) (a2_1:ByteArray) (a2_2:ByteArray) (a2_3:(List ByteArray)) (a2_4:Int) (a2_5:Int):Option Bool :=
  (m_gleeref2_PresentOf a1_0 a0 (TWindow.mk a2_4 a2_5)).bind fun y1=>some (decide ((y1.length:Int)>0))
def m_slices_IndexFunc_string_string__gleeref2_AbsentFrom_1_l1 (a1_c0_0:(List TCame)) (a1_c1_0:ByteArray) (a1_c1_1:ByteArray) (a1_c1_2:ByteArray) (a1_c1_3:(List ByteArray)) (a1_c1_4:Int) (a1_c1_5:Int) (i1:Nat) (x2:ByteArray) (u4:Unit):Option (Flow Unit Int) :=
  (m_gleeref2_AbsentFrom_1 x2 a1_c0_0 a1_c1_0 a1_c1_1 a1_c1_2 a1_c1_3 a1_c1_4 a1_c1_5).bind fun y8=>ifB y8 (some (.ret (i1:Int))) (some (.nxt ()))
def m_slices_IndexFunc_string_string__gleeref2_AbsentFrom_1 (a0:(List ByteArray)) (a1_c0_0:(List TCame)) (a1_c1_0:ByteArray) (a1_c1_1:ByteArray) (a1_c1_2:ByteArray) (a1_c1_3:(List ByteArray)) (a1_c1_4:Int) (a1_c1_5:Int):Option Int :=
  (rangeM (m_slices_IndexFunc_string_string__gleeref2_AbsentFrom_1_l1 a1_c0_0 a1_c1_0 a1_c1_1 a1_c1_2 a1_c1_3 a1_c1_4 a1_c1_5) 0 a0 ()).bind fun f7=>Flow.fin f7 fun u4=>some (-1)
def m_slices_DeleteFunc_string_string__gleeref2_AbsentFrom_1_l1 (a1_c0_0:(List TCame)) (a1_c1_0:ByteArray) (a1_c1_1:ByteArray) (a1_c1_2:ByteArray) (a1_c1_3:(List ByteArray)) (a1_c1_4:Int) (a1_c1_5:Int) (u2:(Int × Int × (List ByteArray))):Option (Flow (Int × Int × (List ByteArray)) (List ByteArray)) :=
  ifB (decide (u2.2.1<(u2.2.2.length:Int))) ((getI u2.2.2 u2.2.1).bind fun e6=>(m_gleeref2_AbsentFrom_1 e6 a1_c0_0 a1_c1_0 a1_c1_1 a1_c1_2 a1_c1_3 a1_c1_4 a1_c1_5).bind fun y7=>ifB (!y7) ((getI u2.2.2 u2.1).bind fun e8=>some (.nxt (w64 (u2.1+1),w64 (u2.2.1+1),(u2.2.2.set u2.1.toNat e6)))) (some (.nxt (u2.1,w64 (u2.2.1+1),u2.2.2)))) (some (.brk (u2.1,u2.2.1,u2.2.2)))
def m_slices_DeleteFunc_string_string__gleeref2_AbsentFrom_1 (a0:(List ByteArray)) (a1_c0_0:(List TCame)) (a1_c1_0:ByteArray) (a1_c1_1:ByteArray) (a1_c1_2:ByteArray) (a1_c1_3:(List ByteArray)) (a1_c1_4:Int) (a1_c1_5:Int):Option (List ByteArray) :=
  (m_slices_IndexFunc_string_string__gleeref2_AbsentFrom_1 a0 a1_c0_0 a1_c1_0 a1_c1_1 a1_c1_2 a1_c1_3 a1_c1_4 a1_c1_5).bind fun y1=>ifB (y1==(-1)) (some a0) ((loopM (m_slices_DeleteFunc_string_string__gleeref2_AbsentFrom_1_l1 a1_c0_0 a1_c1_0 a1_c1_1 a1_c1_2 a1_c1_3 a1_c1_4 a1_c1_5) (y1,w64 (y1+1),a0)).bind fun f5=>Flow.fin f5 fun u2=>(sliceI u2.2.2 u2.1 (u2.2.2.length:Int)).bind fun q9=>(sliceI (clearM ByteArray.empty u2.2.2 u2.1) 0 u2.1).bind fun q10=>some q10)
def m_gleeref2_AbsentFrom (a0:TSlot) (a1:(List TSings)) (a2:(List TCame)):Option (List ByteArray) :=
  (m_gleeref2_AskedTo a0 a1).bind fun y3=>(m_slices_DeleteFunc_string_string__gleeref2_AbsentFrom_1 y3 a2 a0.Key a0.Room a0.Piece a0.Parts a0.Time.From a0.Time.To).bind fun y5=>some y5
def m_slices_Equal_string_string_l1 (a1:(List ByteArray)) (i1:Nat) (x2:ByteArray) (u4:Unit):Option (Flow Unit Bool) :=
  (getI a1 (i1:Int)).bind fun e8=>ifB (!(x2.toList==e8.toList)) (some (.ret false)) (some (.nxt ()))
def m_slices_Equal_string_string (a0:(List ByteArray)) (a1:(List ByteArray)):Option Bool :=
  ifB ((a0.length:Int) != (a1.length:Int)) (some false) ((rangeM (m_slices_Equal_string_string_l1 a1) 0 a0 ()).bind fun f7=>Flow.fin f7 fun u4=>some true)
def m_slices_Equal_api_Pair_api_Pair_l1 (a1:(List TPair)) (i1:Nat) (x2:TPair) (u4:Unit):Option (Flow Unit Bool) :=
  (getI a1 (i1:Int)).bind fun e8=>ifB (!(decide (x2=e8))) (some (.ret false)) (some (.nxt ()))
def m_slices_Equal_api_Pair_api_Pair (a0:(List TPair)) (a1:(List TPair)):Option Bool :=
  ifB ((a0.length:Int) != (a1.length:Int)) (some false) ((rangeM (m_slices_Equal_api_Pair_api_Pair_l1 a1) 0 a0 ()).bind fun f7=>Flow.fin f7 fun u4=>some true)
def m_kit_Has (a0:TWindow) (a1:Int):Option Bool :=
  ifB (decide (a0.From≤a1)) (some (decide (a1<a0.To))) (some false)
def m_rehearse_There_1 (a0:TWindow) (a1_0:Int):Option Bool :=
  (m_kit_Has a0 a1_0).bind fun y2=>some y2
def m_slices_IndexFunc_api_Window_api_Window__rehearse_There_1_l1 (a1_c0_0:Int) (i1:Nat) (x2:TWindow) (u4:Unit):Option (Flow Unit Int) :=
  (m_rehearse_There_1 x2 a1_c0_0).bind fun y8=>ifB y8 (some (.ret (i1:Int))) (some (.nxt ()))
def m_slices_IndexFunc_api_Window_api_Window__rehearse_There_1 (a0:(List TWindow)) (a1_c0_0:Int):Option Int :=
  (rangeM (m_slices_IndexFunc_api_Window_api_Window__rehearse_There_1_l1 a1_c0_0) 0 a0 ()).bind fun f7=>Flow.fin f7 fun u4=>some (-1)
def m_slices_ContainsFunc_api_Window_api_Window__rehearse_There_1 (a0:(List TWindow)) (a1_c0_0:Int):Option Bool :=
  (m_slices_IndexFunc_api_Window_api_Window__rehearse_There_1 a0 a1_c0_0).bind fun y1=>some (decide (y1≥0))
noncomputable def m_slices_Sorted_string__maps_Keys_map_string_bool_string_bool_1 (a0_c0_0:(List (ByteArray × Bool))):Option (List ByteArray) :=
  if a0_c0_0.length≤1000000000 then m_slices_Sort_string_string (a0_c0_0.map Prod.fst) else none
def m_rehearse_There_l1 (a1:Int) (q12:(List (ByteArray × (List TWindow)))) (i16:Nat) (x17:ByteArray) (u23:(List (ByteArray × Bool))):Option (Flow (List (ByteArray × Bool)) ((List ByteArray) × Int)) :=
  (m_slices_ContainsFunc_api_Window_api_Window__rehearse_There_1 ((lkM q12 x17).getD []) a1).bind fun y28=>ifB y28 (some (.nxt (putM u23 x17 true))) (some (.nxt u23))
def m_rehearse_There (a0:(List TCame)) (a1:Int):Option ((List ByteArray) × Int) :=
  (m_rehearse_CheckCame a0).bind fun y2=>ifB (y2 != 0) (some ([],y2)) ((m_kit_IsMoment a1).bind fun y4=>ifB (!y4) (some ([],1)) ((m_rehearse_presences a0).bind fun y7=>anyOrd y7 fun q12=>anyOrd (q12.map Prod.fst) fun L26=>(rangeM (m_rehearse_There_l1 a1 q12) 0 L26 []).bind fun f34=>Flow.fin f34 fun u23=>(m_slices_Sorted_string__maps_Keys_map_string_bool_string_bool_1 u23).bind fun y32=>some (y32,0)))
def m_gleelaw2_rehearsed  : Option Bool :=
  (m_rehearse_There [(TCame.mk 5 (ByteArray.mk [97,110,110].toArray) false)] 6).bind fun y2=>ifB (y2.2==0) ((m_slices_Equal_string_string y2.1 [(ByteArray.mk [97,110,110].toArray)]).bind fun y5=>some y5) (some false)
def m_gleelaw2_PiecesRehearsed (a0:(List Int)):Option Bool :=
  (m_gleemake_Stream_Slots a0 0 4).bind fun y2=>(m_gleemake_Stream_SingList a0 y2.2).bind fun y5=>(m_gleemake_Stream_Range a0 y5.2 0 10).bind fun y7=>(m_gleemake_Stream_Cames a0 y7.2 y7.1).bind fun y8=>(m_gleemake_Stream_Wishes a0 y8.2).bind fun y10=>(m_gleemake_Stream_Some a0 y10.2 [(ByteArray.mk [97,110,110].toArray),(ByteArray.mk [98,111,98].toArray),(ByteArray.mk [122,101,100].toArray),ByteArray.empty]).bind fun y13=>(m_gleemake_Stream_Some a0 y13.2 [(ByteArray.mk [103,108,111,114,105,97].toArray),(ByteArray.mk [103,108,111,114,105,97].toArray),(ByteArray.mk [107,121,114,105,101].toArray),(ByteArray.mk [122,122].toArray),(ByteArray.mk [65].toArray)]).bind fun y15=>(m_gleemake_Stream_Some a0 y15.2 [(ByteArray.mk [115,97].toArray),(ByteArray.mk [115,98].toArray),(ByteArray.mk [122,122].toArray)]).bind fun y17=>(m_gleemake_Stream_RehearsalTime a0 y17.2).bind fun y18=>(m_rehearse_Rehearsed y2.1 y5.1 y8.1 y13.1 y15.1 y18.1).bind fun y19=>(m_rehearse_Ready y2.1 y5.1 y8.1 y10.1 y15.1 y18.1).bind fun y20=>(m_rehearse_Lacking y2.1 y5.1 y8.1 y10.1 y18.1).bind fun y22=>(m_rehearse_Absent y2.1 y5.1 y8.1 y17.1).bind fun y24=>(m_gleeref2_SlotsFault y2.1).bind fun y26=>(m_gleeref2_SingsFault y5.1).bind fun y27=>(m_gleeref2_CameFault y8.1).bind fun y28=>(m_gleelaw2_errs [y26,y27,y28]).bind fun y30=>(m_gleelaw2_nameFault y13.1).bind fun y31=>(m_gleelaw2_nameFault y15.1).bind fun y32=>(m_gleeref2_MomentFault y18.1).bind fun y33=>(m_gleelaw2_errs [y30,y31,y32,y33]).bind fun y35=>(m_gleeref2_WishesFault y10.1).bind fun y36=>(m_gleelaw2_nameFault y15.1).bind fun y37=>(m_gleeref2_MomentFault y18.1).bind fun y38=>(m_gleelaw2_errs [y30,y36,y37,y38]).bind fun y40=>(m_gleeref2_WishesFault y10.1).bind fun y41=>(m_gleeref2_MomentFault y18.1).bind fun y42=>(m_gleelaw2_errs [y30,y41,y42]).bind fun y44=>(m_gleeref2_SlotAt y2.1 y17.1).bind fun y45=>(m_gleelaw2_when (decide (y45<0)) 8).bind fun y46=>(m_gleelaw2_errs [y30,y46]).bind fun y48=>(ifB (y35==0) ((m_gleeref2_RehearsedOf y2.1 y5.1 y8.1 y13.1 y15.1 y18.1).bind fun y52=>some (.inl y52)) (some (.inl 0)):Option (Int ⊕ Bool)).bind fun k51=>Sum.fin k51 fun u49=>(ifB (y40==0) ((m_gleeref2_ReadyOf y2.1 y5.1 y8.1 y10.1 y15.1 y18.1).bind fun y57=>some (.inl y57)) (some (.inl [])):Option ((List ByteArray) ⊕ Bool)).bind fun k56=>Sum.fin k56 fun u53=>(ifB (y44==0) ((m_gleeref2_LackingFor y2.1 y5.1 y8.1 y10.1 y18.1).bind fun y64=>some (.inl y64)) (some (.inl [])):Option ((List TPair) ⊕ Bool)).bind fun k63=>Sum.fin k63 fun u60=>(ifB (y48==0) ((m_gleeref2_SlotAt y2.1 y17.1).bind fun y71=>(getI y2.1 y71).bind fun e72=>(m_gleeref2_AbsentFrom e72 y5.1 y8.1).bind fun y73=>some (.inl y73)) (some (.inl [])):Option ((List ByteArray) ⊕ Bool)).bind fun k70=>Sum.fin k70 fun u67=>(m_rehearse_CheckWishes y10.1).bind fun y76=>(m_gleeref2_WishesFault y10.1).bind fun y77=>ifB (y76==y77) (ifB (y19.2==y35) (ifB (y19.1==u49) (ifB (y20.2==y40) ((m_slices_Equal_string_string y20.1 u53).bind fun y78=>ifB y78 (ifB (y22.2==y44) ((m_slices_Equal_api_Pair_api_Pair y22.1 u60).bind fun y79=>ifB y79 (ifB (y24.2==y48) ((m_slices_Equal_string_string y24.1 u67).bind fun y80=>ifB y80 (m_gleelaw2_rehearsed.bind fun y81=>some y81) (some false)) (some false)) (some false)) (some false)) (some false)) (some false)) (some false)) (some false)) (some false)
end
end Go.G
