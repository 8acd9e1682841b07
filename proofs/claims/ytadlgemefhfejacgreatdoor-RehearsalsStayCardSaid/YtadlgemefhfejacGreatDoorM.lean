/- The models. Written by program. -/
import Derived.Test.YtadlgemefhfejacGreatDoorXM
namespace Go.G
open Go Go.J
set_option linter.unusedVariables false
noncomputable section
structure Tgleemake_Stream where
  L:(List Int)
  at_:Int
  deriving DecidableEq,Inhabited
structure TWindow where
  From:Int
  To:Int
  deriving DecidableEq,Inhabited
structure TSlot where
  Key:ByteArray
  Room:ByteArray
  Piece:ByteArray
  Parts:(List ByteArray)
  Time:TWindow
  deriving DecidableEq,Inhabited
structure TCame where
  At:Int
  Singer:ByteArray
  Left:Bool
  deriving DecidableEq,Inhabited
structure TPair where
  Name:ByteArray
  Value:ByteArray
  deriving DecidableEq,Inhabited
structure TSings where
  Singer:ByteArray
  Piece:ByteArray
  Part:ByteArray
  deriving DecidableEq,Inhabited
structure TWish where
  Piece:ByteArray
  Need:Int
  deriving DecidableEq,Inhabited
structure Trehearse_lacking where
  piece:ByteArray
  many:Int
  deriving DecidableEq,Inhabited
structure Trehearse_planner where
  free:(List TWindow)
  lacks:(List (List Int))
  now:(List Int)
  best:(List Int)
  least:Int
  deriving DecidableEq,Inhabited
structure TBar where
  Beats:Int
  Unit:Int
  Close:Int
  Ending:Int
  Open:Bool
  deriving DecidableEq,Inhabited
structure TChord where
  Root:Int
  Kind:Int
  Turn:Int
  deriving DecidableEq,Inhabited
structure TItem where
  Key:ByteArray
  Places:ByteArray
  Long:Int
  Parts:(List ByteArray)
  deriving DecidableEq,Inhabited
structure TProgram where
  Items:(List TItem)
  Change:Int
  Clap:Int
  Break:Int
  Half:Int
  deriving DecidableEq,Inhabited
structure TAct where
  Site:ByteArray
  No:Int
  At:Int
  Kind:Int
  Who:ByteArray
  Motion:ByteArray
  Cents:Int
  Yes:Bool
  Of:ByteArray
  Other:Int
  deriving DecidableEq,Inhabited
structure TAway where
  Singer:ByteArray
  Time:TWindow
  deriving DecidableEq,Inhabited
structure Tpiece_repeat where
  from_:Int
  to_:Int
  times:Int
  deriving DecidableEq,Inhabited
structure Tclub_stay where
  since:Int
  till:Int
  cents:Int
  deriving DecidableEq,Inhabited
structure Tclub_own where
  site:ByteArray
  no:Int
  deriving DecidableEq,Inhabited
structure Tclub_uses where
  who:Bool
  motion:Bool
  cents:Bool
  yes:Bool
  undo:Bool
  deriving DecidableEq,Inhabited
def m_gleemake_Below (a0:Int) (a1:Int):Option Int :=
  ifB (decide (a1<1)) (some 0) ((remM a0 a1).bind fun z1=>ifB (decide (z1<0)) (some (w64 (z1+a1))) (some z1))
def m_gleemake_Stream_Next (a0_0:(List Int)) (a0_1:Int) (a1:Int):Option (Int × Int) :=
  ifB ((a0_0.length:Int)==0) ((m_gleemake_Below (w64 ((w64 (a0_1+1))*7919)) a1).bind fun y1=>some (y1,w64 (a0_1+1))) ((remM (w64 ((w64 (a0_1+1)) - 1)) (a0_0.length:Int)).bind fun z2=>(quoM (w64 ((w64 (a0_1+1)) - 1)) (a0_0.length:Int)).bind fun z3=>(getI a0_0 z2).bind fun e4=>(m_gleemake_Below e4 1073741824).bind fun y5=>(m_gleemake_Below (w64 (y5+(w64 (z3*(w64 (7919+z2)))))) a1).bind fun y6=>some (y6,w64 (a0_1+1)))
def m_gleemake_Stream_Flip (a0_0:(List Int)) (a0_1:Int) (a1:Int):Option (Bool × Int) :=
  (m_gleemake_Stream_Next a0_0 a0_1 a1).bind fun y1=>some (y1.1==0,y1.2)
def m_gleemake_Stream_Pick (a0_0:(List Int)) (a0_1:Int) (a1:(List Int)):Option (Int × Int) :=
  (m_gleemake_Stream_Next a0_0 a0_1 (a1.length:Int)).bind fun y1=>(getI a1 y1.1).bind fun e2=>some (e2,y1.2)
def m_gleemake_Stream_Some (a0_0:(List Int)) (a0_1:Int) (a1:(List ByteArray)):Option (ByteArray × Int) :=
  (m_gleemake_Stream_Next a0_0 a0_1 (a1.length:Int)).bind fun y1=>(getI a1 y1.1).bind fun e2=>some (e2,y1.2)
def m_bits_Len (a0:Int):Option Int :=
  (m_bits_Len64 a0).bind fun y1=>some y1
def m_cmp_isNaN_int (a0:Int):Option Bool :=
  some (a0 != a0)
def m_cmp_Compare_int (a0:Int) (a1:Int):Option Int :=
  (m_cmp_isNaN_int a0).bind fun y1=>(m_cmp_isNaN_int a1).bind fun y2=>ifB y1 (ifB y2 (some 0) (some (-1))) (ifB y2 (some 1) (ifB (decide (a0<a1)) (some (-1)) (ifB (decide (a0>a1)) (some 1) (some 0))))
def m_slices_Compare_int_int_l1 (a1:(List Int)) (i1:Nat) (x2:Int) (u4:Unit):Option (Flow Unit Int) :=
  ifB (decide ((i1:Int)≥(a1.length:Int))) (some (.ret 1)) ((getI a1 (i1:Int)).bind fun e8=>(m_cmp_Compare_int x2 e8).bind fun y9=>ifB (y9 != 0) (some (.ret y9)) (some (.nxt ())))
def m_slices_Compare_int_int (a0:(List Int)) (a1:(List Int)):Option Int :=
  (rangeM (m_slices_Compare_int_int_l1 a1) 0 a0 ()).bind fun f7=>Flow.fin f7 fun u4=>ifB (decide ((a0.length:Int)<(a1.length:Int))) (some (-1)) (some 0)
def m_cmp_isNaN_string (a0:ByteArray):Option Bool :=
  some (!(a0.toList==a0.toList))
def m_cmp_Compare_string (a0:ByteArray) (a1:ByteArray):Option Int :=
  (m_cmp_isNaN_string a0).bind fun y1=>(m_cmp_isNaN_string a1).bind fun y2=>ifB y1 (ifB y2 (some 0) (some (-1))) (ifB y2 (some 1) (ifB (Op.bytesLess a0.toList a1.toList) (some (-1)) (ifB (!(Op.bytesLess a0.toList a1.toList||a0.toList==a1.toList)) (some 1) (some 0))))
def m_slices_Compare_string_string_l1 (a1:(List ByteArray)) (i1:Nat) (x2:ByteArray) (u4:Unit):Option (Flow Unit Int) :=
  ifB (decide ((i1:Int)≥(a1.length:Int))) (some (.ret 1)) ((getI a1 (i1:Int)).bind fun e8=>(m_cmp_Compare_string x2 e8).bind fun y9=>ifB (y9 != 0) (some (.ret y9)) (some (.nxt ())))
def m_slices_Compare_string_string (a0:(List ByteArray)) (a1:(List ByteArray)):Option Int :=
  (rangeM (m_slices_Compare_string_string_l1 a1) 0 a0 ()).bind fun f7=>Flow.fin f7 fun u4=>ifB (decide ((a0.length:Int)<(a1.length:Int))) (some (-1)) (some 0)
def m_gleemake_Stream_RightSlots_1 (a0:TSlot) (a1:TSlot):Option Int :=
  (m_slices_Compare_int_int [a0.Time.From] [a1.Time.From]).bind fun y5=>ifB (y5 != 0) (some y5) ((m_slices_Compare_string_string [a0.Key] [a1.Key]).bind fun y8=>some y8)
def m_slices_insertionSortCmpFunc_api_Slot__gleemake_Stream_RightSlots_1_l2 (a1:Int) (u5:(Int × (List TSlot))):Option (Flow (Int × (List TSlot)) (Flow (Int × (List TSlot)) (List TSlot))) :=
  ifB (decide (u5.1>a1)) ((getI u5.2 u5.1).bind fun e9=>(getI u5.2 (w64 (u5.1 - 1))).bind fun e10=>(m_gleemake_Stream_RightSlots_1 e9 e10).bind fun y11=>ifB (decide (y11<0)) ((getI u5.2 (w64 (u5.1 - 1))).bind fun e12=>(getI u5.2 u5.1).bind fun e13=>(getI u5.2 u5.1).bind fun e14=>(getI (u5.2.set u5.1.toNat e12) (w64 (u5.1 - 1))).bind fun e16=>some (.nxt (w64 (u5.1 - 1),((u5.2.set u5.1.toNat e12).set ((w64 (u5.1 - 1)).toNat) e13)))) (some (.brk (u5.1,u5.2)))) (some (.brk (u5.1,u5.2)))
def m_slices_insertionSortCmpFunc_api_Slot__gleemake_Stream_RightSlots_1_l1 (a1:Int) (a2:Int) (u1:(Int × (List TSlot))):Option (Flow (Int × (List TSlot)) (List TSlot)) :=
  ifB (decide (u1.1<a2)) ((loopM (m_slices_insertionSortCmpFunc_api_Slot__gleemake_Stream_RightSlots_1_l2 a1) (u1.1,u1.2)).bind fun f8=>Flow.fin f8 fun u5=>some (.nxt (w64 (u1.1+1),u5.2))) (some (.brk (u1.1,u1.2)))
def m_slices_insertionSortCmpFunc_api_Slot__gleemake_Stream_RightSlots_1 (a0:(List TSlot)) (a1:Int) (a2:Int):Option (List TSlot) :=
  (loopM (m_slices_insertionSortCmpFunc_api_Slot__gleemake_Stream_RightSlots_1_l1 a1 a2) (w64 (a1+1),a0)).bind fun f4=>Flow.fin f4 fun u1=>some u1.2
def m_slices_pdqsortCmpFunc_api_Slot__gleemake_Stream_RightSlots_1_l1 (a0:(List TSlot)) (a1:Int) (a2:Int) (a3:Int) (u1:Unit):Option (Flow Unit (List TSlot)) :=
  ifB (decide ((w64 (a2 - a1))≤12)) ((m_slices_insertionSortCmpFunc_api_Slot__gleemake_Stream_RightSlots_1 a0 a1 a2).bind fun y5=>some (.ret y5)) (ifB (a3==0) (none) ((ifB (!true) (none) (some (.inl ())):Option (Unit ⊕ (Flow Unit (List TSlot)))).bind fun k9=>Sum.fin k9 fun u7=>none))
def m_slices_pdqsortCmpFunc_api_Slot__gleemake_Stream_RightSlots_1 (a0:(List TSlot)) (a1:Int) (a2:Int) (a3:Int):Option (List TSlot) :=
  (loopM (m_slices_pdqsortCmpFunc_api_Slot__gleemake_Stream_RightSlots_1_l1 a0 a1 a2 a3) ()).bind fun f4=>Flow.fin f4 fun u1=>some a0
def m_slices_SortFunc_api_Slot_api_Slot__gleemake_Stream_RightSlots_1 (a0:(List TSlot)):Option (List TSlot) :=
  (m_bits_Len (IntKind.wrap .u64 (a0.length:Int))).bind fun y1=>(m_slices_pdqsortCmpFunc_api_Slot__gleemake_Stream_RightSlots_1 a0 0 (a0.length:Int) y1).bind fun y2=>some y2
def m_gleemake_Stream_RightSlots_l2 (a0_0:(List Int)) (i26:Nat) (x27:ByteArray) (u30:(Int × (List ByteArray))):Option (Flow (Int × (List ByteArray)) (Flow (Int × Int × (List (ByteArray × Int)) × (List TSlot)) ((List TSlot) × Int))) :=
  (m_gleemake_Stream_Flip a0_0 u30.1 3).bind fun y35=>ifB y35.1 ((appM 16 u30.2 [x27]).bind fun q37=>some (.nxt (y35.2,q37))) (some (.nxt (y35.2,u30.2)))
def m_gleemake_Stream_RightSlots_l1 (a0_0:(List Int)) (i4:Nat) (x5:ByteArray) (u8:(Int × Int × (List (ByteArray × Int)) × (List TSlot))):Option (Flow (Int × Int × (List (ByteArray × Int)) × (List TSlot)) ((List TSlot) × Int)) :=
  (m_gleemake_Stream_Flip a0_0 u8.2.1 6).bind fun y13=>ifB y13.1 (some (.nxt (u8.1,y13.2,u8.2.2.1,u8.2.2.2))) ((m_gleemake_Stream_Pick a0_0 y13.2 [0,10,40]).bind fun y15=>(m_gleemake_Stream_Some a0_0 y15.2 [(ByteArray.mk [104,97,108,108].toArray),(ByteArray.mk [104,97,108,108].toArray),(ByteArray.mk [99,101,108,108,97,114].toArray)]).bind fun y17=>(m_gleemake_Stream_Some a0_0 y17.2 [(ByteArray.mk [103,108,111,114,105,97].toArray),(ByteArray.mk [107,121,114,105,101].toArray),(ByteArray.mk [103,108,111,114,105,97].toArray)]).bind fun y19=>(m_gleemake_Stream_Pick a0_0 y19.2 [10,30,60]).bind fun y22=>(rangeM (m_gleemake_Stream_RightSlots_l2 a0_0) 0 [(ByteArray.mk [97,108,116,111].toArray),(ByteArray.mk [98,97,115,115].toArray)] (y22.2,[])).bind fun f33=>Flow.fin f33 fun u30=>(appM 88 u8.2.2.2 [(TSlot.mk x5 y17.1 y19.1 u30.2 (TWindow.mk (max (w64 (u8.1+y15.1)) ((lkM u8.2.2.1 y17.1).getD 0)) (w64 ((max (w64 (u8.1+y15.1)) ((lkM u8.2.2.1 y17.1).getD 0))+y22.1))))]).bind fun q41=>some (.nxt (max (w64 (u8.1+y15.1)) ((lkM u8.2.2.1 y17.1).getD 0),u30.1,putM u8.2.2.1 y17.1 (w64 ((max (w64 (u8.1+y15.1)) ((lkM u8.2.2.1 y17.1).getD 0))+y22.1)),q41)))
def m_gleemake_Stream_RightSlots (a0_0:(List Int)) (a0_1:Int) (a1:Int):Option ((List TSlot) × Int) :=
  (sliceI [(ByteArray.mk [115,98].toArray),(ByteArray.mk [115,97].toArray),(ByteArray.mk [115,99].toArray),(ByteArray.mk [115,100].toArray),(ByteArray.mk [115,101].toArray)] 0 a1).bind fun q3=>(rangeM (m_gleemake_Stream_RightSlots_l1 a0_0) 0 q3 (0,a0_1,[],[])).bind fun f11=>Flow.fin f11 fun u8=>(m_slices_SortFunc_api_Slot_api_Slot__gleemake_Stream_RightSlots_1 u8.2.2.2).bind fun y45=>some (y45,u8.2.1)
def m_gleemake_Stream_RightSings_l2 (a0_0:(List Int)) (x3:ByteArray) (i12:Nat) (x13:ByteArray) (u15:(Int × (List TSings))):Option (Flow (Int × (List TSings)) (Flow (Int × (List TSings)) ((List TSings) × Int))) :=
  (m_gleemake_Stream_Flip a0_0 u15.1 3).bind fun y20=>ifB (!y20.1) ((m_gleemake_Stream_Some a0_0 y20.2 [(ByteArray.mk [97,108,116,111].toArray),(ByteArray.mk [98,97,115,115].toArray)]).bind fun y22=>(appM 48 u15.2 [(TSings.mk x3 x13 y22.1)]).bind fun q24=>some (.nxt (y22.2,q24))) (some (.nxt (y20.2,u15.2)))
def m_gleemake_Stream_RightSings_l1 (a0_0:(List Int)) (i2:Nat) (x3:ByteArray) (u6:(Int × (List TSings))):Option (Flow (Int × (List TSings)) ((List TSings) × Int)) :=
  (rangeM (m_gleemake_Stream_RightSings_l2 a0_0 x3) 0 [(ByteArray.mk [103,108,111,114,105,97].toArray),(ByteArray.mk [107,121,114,105,101].toArray)] (u6.1,u6.2)).bind fun f18=>Flow.fin f18 fun u15=>some (.nxt (u15.1,u15.2))
def m_gleemake_Stream_RightSings (a0_0:(List Int)) (a0_1:Int):Option ((List TSings) × Int) :=
  (rangeM (m_gleemake_Stream_RightSings_l1 a0_0) 0 [(ByteArray.mk [97,110,110].toArray),(ByteArray.mk [98,111,98].toArray),(ByteArray.mk [99,105,100].toArray),(ByteArray.mk [100,97,110].toArray)] (a0_1,[])).bind fun f9=>Flow.fin f9 fun u6=>some (u6.2,u6.1)
def m_gleemake_Stream_Range (a0_0:(List Int)) (a0_1:Int) (a1:Int) (a2:Int):Option (Int × Int) :=
  ifB (decide (a2<a1)) (some (a1,a0_1)) ((m_gleemake_Stream_Next a0_0 a0_1 (w64 ((w64 (a2 - a1))+1))).bind fun y1=>some (w64 (a1+y1.1),y1.2))
def m_gleemake_Stream_Odd (a0_0:(List Int)) (a0_1:Int) (a1:Int) (a2:Int):Option (Int × Int) :=
  (m_gleemake_Stream_Flip a0_0 a0_1 12).bind fun y1=>ifB y1.1 ((m_gleemake_Stream_Pick a0_0 y1.2 [w64 (a1 - 1),w64 (a2+1),a1,a2,(-1099511627776),1099511627776]).bind fun y3=>some (y3.1,y3.2)) ((m_gleemake_Stream_Range a0_0 y1.2 a1 a2).bind fun y4=>some (y4.1,y4.2))
def m_slices_Grow_api_Came_api_Came__nil (a1:Int):Option (List TCame) :=
  ifB (decide (a1<0)) (none) (ifB (decide ((w64 (a1 - (w64 (0 - 0))))>0)) ((sliceI ([]:List TCame) 0 0).bind fun q2=>(growM 32 (w64 (a1 - (w64 (0 - 0))))).bind fun u3=>some []) (some []))
def m_slices_Concat_api_Came_api_Came_l2  (i10:Nat) (x11:(List TCame)) (u13:(List TCame)):Option (Flow (List TCame) (List TCame)) :=
  (appM 32 u13 x11).bind fun q18=>some (.nxt q18)
def m_slices_Concat_api_Came_api_Came_l1  (i1:Nat) (x2:(List TCame)) (u4:Int):Option (Flow Int (List TCame)) :=
  ifB (decide ((w64 (u4+(x2.length:Int)))<0)) (none) (some (.nxt (w64 (u4+(x2.length:Int)))))
def m_slices_Concat_api_Came_api_Came (a0:(List (List TCame))):Option (List TCame) :=
  (rangeM m_slices_Concat_api_Came_api_Came_l1 0 a0 0).bind fun f7=>Flow.fin f7 fun u4=>(m_slices_Grow_api_Came_api_Came__nil u4).bind fun y8=>(rangeM m_slices_Concat_api_Came_api_Came_l2 0 a0 y8).bind fun f16=>Flow.fin f16 fun u13=>some u13
def m_gleeref2_sign (a0:Int):Option Int :=
  ifB (decide (a0<0)) (some (-1)) (ifB (decide (a0>0)) (some 1) (some 0))
def m_gleeref2_cameOrder (a0:TCame) (a1:TCame):Option Int :=
  ifB (a0.At != a1.At) ((m_gleeref2_sign (w64 (a0.At - a1.At))).bind fun y3=>some y3) (ifB (!(a0.Singer.toList==a1.Singer.toList)) ((m_strings_Compare a0.Singer a1.Singer).bind fun y4=>some y4) (ifB (a0.Left==a1.Left) (some 0) (ifB a1.Left (some (-1)) (some 1))))
def m_slices_insertionSortCmpFunc_api_Came__gleeref2_cameOrder_l2 (a1:Int) (u5:(Int × (List TCame))):Option (Flow (Int × (List TCame)) (Flow (Int × (List TCame)) (List TCame))) :=
  ifB (decide (u5.1>a1)) ((getI u5.2 u5.1).bind fun e9=>(getI u5.2 (w64 (u5.1 - 1))).bind fun e10=>(m_gleeref2_cameOrder e9 e10).bind fun y11=>ifB (decide (y11<0)) ((getI u5.2 (w64 (u5.1 - 1))).bind fun e12=>(getI u5.2 u5.1).bind fun e13=>(getI u5.2 u5.1).bind fun e14=>(getI (u5.2.set u5.1.toNat e12) (w64 (u5.1 - 1))).bind fun e15=>some (.nxt (w64 (u5.1 - 1),((u5.2.set u5.1.toNat e12).set ((w64 (u5.1 - 1)).toNat) e13)))) (some (.brk (u5.1,u5.2)))) (some (.brk (u5.1,u5.2)))
def m_slices_insertionSortCmpFunc_api_Came__gleeref2_cameOrder_l1 (a1:Int) (a2:Int) (u1:(Int × (List TCame))):Option (Flow (Int × (List TCame)) (List TCame)) :=
  ifB (decide (u1.1<a2)) ((loopM (m_slices_insertionSortCmpFunc_api_Came__gleeref2_cameOrder_l2 a1) (u1.1,u1.2)).bind fun f8=>Flow.fin f8 fun u5=>some (.nxt (w64 (u1.1+1),u5.2))) (some (.brk (u1.1,u1.2)))
def m_slices_insertionSortCmpFunc_api_Came__gleeref2_cameOrder (a0:(List TCame)) (a1:Int) (a2:Int):Option (List TCame) :=
  (loopM (m_slices_insertionSortCmpFunc_api_Came__gleeref2_cameOrder_l1 a1 a2) (w64 (a1+1),a0)).bind fun f4=>Flow.fin f4 fun u1=>some u1.2
def m_slices_pdqsortCmpFunc_api_Came__gleeref2_cameOrder_l1 (a0:(List TCame)) (a1:Int) (a2:Int) (a3:Int) (u1:Unit):Option (Flow Unit (List TCame)) :=
  ifB (decide ((w64 (a2 - a1))≤12)) ((m_slices_insertionSortCmpFunc_api_Came__gleeref2_cameOrder a0 a1 a2).bind fun y5=>some (.ret y5)) (ifB (a3==0) (none) ((ifB (!true) (none) (some (.inl ())):Option (Unit ⊕ (Flow Unit (List TCame)))).bind fun k8=>Sum.fin k8 fun u6=>none))
def m_slices_pdqsortCmpFunc_api_Came__gleeref2_cameOrder (a0:(List TCame)) (a1:Int) (a2:Int) (a3:Int):Option (List TCame) :=
  (loopM (m_slices_pdqsortCmpFunc_api_Came__gleeref2_cameOrder_l1 a0 a1 a2 a3) ()).bind fun f4=>Flow.fin f4 fun u1=>some a0
def m_slices_SortFunc_api_Came_api_Came__gleeref2_cameOrder (a0:(List TCame)):Option (List TCame) :=
  (m_bits_Len (IntKind.wrap .u64 (a0.length:Int))).bind fun y1=>(m_slices_pdqsortCmpFunc_api_Came__gleeref2_cameOrder a0 0 (a0.length:Int) y1).bind fun y2=>some y2
def m_slices_Compact_api_Came_api_Came_l2 (a0:(List TCame)) (u1:Int) (u8:(Int × Int × (List TCame))):Option (Flow (Int × Int × (List TCame)) (Flow Int (List TCame))) :=
  (sliceI u8.2.2 u1 (a0.length:Int)).bind fun q12=>ifB (decide (u8.2.1<(q12.length:Int))) ((getI q12 u8.2.1).bind fun e13=>(getI q12 (w64 (u8.2.1 - 1))).bind fun e14=>ifB (!(decide (e13=e14))) ((getI q12 u8.2.1).bind fun e15=>(getI u8.2.2 u8.1).bind fun e16=>some (.nxt (w64 (u8.1+1),w64 (u8.2.1+1),(u8.2.2.set u8.1.toNat e15)))) (some (.nxt (u8.1,w64 (u8.2.1+1),u8.2.2)))) (some (.brk (u8.1,u8.2.1,u8.2.2)))
def m_slices_Compact_api_Came_api_Came_l1 (a0:(List TCame)) (u1:Int):Option (Flow Int (List TCame)) :=
  ifB (decide (u1<(a0.length:Int))) ((getI a0 u1).bind fun e5=>(getI a0 (w64 (u1 - 1))).bind fun e6=>ifB (decide (e5=e6)) ((sliceI a0 u1 (a0.length:Int)).bind fun q7=>(loopM (m_slices_Compact_api_Came_api_Came_l2 a0 u1) (u1,1,a0)).bind fun f11=>Flow.fin f11 fun u8=>(sliceI u8.2.2 u8.1 (u8.2.2.length:Int)).bind fun q17=>(sliceI (clearM (TCame.mk 0 ByteArray.empty false) u8.2.2 u8.1) 0 u8.1).bind fun q18=>some (.ret q18)) (some (.nxt (w64 (u1+1))))) (some (.brk u1))
def m_slices_Compact_api_Came_api_Came (a0:(List TCame)):Option (List TCame) :=
  ifB (decide ((a0.length:Int)<2)) (some a0) ((loopM (m_slices_Compact_api_Came_api_Came_l1 a0) 1).bind fun f4=>Flow.fin f4 fun u1=>some a0)
def m_gleeref2_CameOf (a0:(List TCame)) (a1:(List TCame)):Option ((List TCame) × Int) :=
  (m_slices_Concat_api_Came_api_Came [a0,a1]).bind fun y2=>(m_slices_SortFunc_api_Came_api_Came__gleeref2_cameOrder y2).bind fun y4=>(m_slices_Compact_api_Came_api_Came y4).bind fun y5=>ifB (decide ((y5.length:Int)>5000)) (some ([],2)) (some (y5,0))
def m_gleemake_Stream_Cames_l1 (a0_0:(List Int)) (i1:Nat) (x2:Nat) (u5:(Int × Int × (List TCame))):Option (Flow (Int × Int × (List TCame)) ((List TCame) × Int)) :=
  (m_gleemake_Stream_Pick a0_0 u5.2.1 [0,5,10,20]).bind fun y11=>(m_gleemake_Stream_Some a0_0 y11.2 [(ByteArray.mk [97,110,110].toArray),(ByteArray.mk [97,110,110].toArray),(ByteArray.mk [98,111,98].toArray),(ByteArray.mk [99,105,100].toArray)]).bind fun y13=>(m_gleemake_Stream_Flip a0_0 y13.2 3).bind fun y14=>(m_gleemake_Stream_Flip a0_0 y14.2 100).bind fun y16=>(ifB y16.1 ((m_gleemake_Stream_Odd a0_0 y16.2 0 50).bind fun y20=>(m_gleemake_Stream_Some a0_0 y20.2 [ByteArray.empty,(ByteArray.mk [97,110,110].toArray)]).bind fun y22=>some (.inl (y22.2,y20.1,y22.1))) (some (.inl (y16.2,w64 (u5.1+y11.1),y13.1))):Option ((Int × Int × ByteArray) ⊕ (Flow (Int × Int × (List TCame)) ((List TCame) × Int)))).bind fun k19=>Sum.fin k19 fun u17=>(appM 32 u5.2.2 [(TCame.mk u17.2.1 u17.2.2 y14.1)]).bind fun q24=>some (.nxt (w64 (u5.1+y11.1),u17.1,q24))
def m_gleemake_Stream_Cames (a0_0:(List Int)) (a0_1:Int) (a1:Int):Option ((List TCame) × Int) :=
  (rangeI a1).bind fun L30=>(rangeM (m_gleemake_Stream_Cames_l1 a0_0) 0 L30 (0,a0_1,[])).bind fun f8=>Flow.fin f8 fun u5=>(m_gleeref2_CameOf u5.2.2 []).bind fun y28=>some (y28.1,u5.2.1)
def m_gleeref2_in (a0:Int) (a1:Int) (a2:Int):Option Bool :=
  ifB (decide (a1≤a0)) (some (decide (a0≤a2))) (some false)
def m_gleeref2_Moment (a0:Int):Option Bool :=
  (m_gleeref2_in a0 0 345686399999).bind fun y1=>some y1
def m_gleeref2_only_l1 (a0:ByteArray) (a1:ByteArray) (i1:Nat) (x2:Nat) (u4:Unit):Option (Flow Unit Bool) :=
  (strI a0 (i1:Int)).bind fun c8=>(m_strings_IndexByte a1 c8).bind fun y9=>ifB (decide (y9<0)) (some (.ret false)) (some (.nxt ()))
def m_gleeref2_only (a0:ByteArray) (a1:ByteArray):Option Bool :=
  (rangeI (a0.size:Int)).bind fun L10=>(rangeM (m_gleeref2_only_l1 a0 a1) 0 L10 ()).bind fun f7=>Flow.fin f7 fun u4=>some true
def m_gleeref2_Key (a0:ByteArray):Option Bool :=
  (m_gleeref2_in (a0.size:Int) 1 40).bind fun y1=>ifB y1 ((strS a0 0 1).bind fun c2=>(m_gleeref2_only c2 (ByteArray.mk [97,98,99,100,101,102,103,104,105,106,107,108,109,110,111,112,113,114,115,116,117,118,119,120,121,122].toArray)).bind fun y3=>ifB y3 ((m_gleeref2_only a0 (ByteArray.mk [97,98,99,100,101,102,103,104,105,106,107,108,109,110,111,112,113,114,115,116,117,118,119,120,121,122,48,49,50,51,52,53,54,55,56,57,45,95].toArray)).bind fun y4=>some y4) (some false)) (some false)
def m_gleeref2_CameFault_l1 (a0:(List TCame)) (i1:Nat) (x2:TCame) (u4:Unit):Option (Flow Unit Int) :=
  (m_gleeref2_Moment x2.At).bind fun y9=>ifB (!y9) (some (.ret 1)) ((m_gleeref2_Key x2.Singer).bind fun y10=>ifB (!y10) (some (.ret 5)) (ifB (decide ((i1:Int)>0)) ((getI a0 (w64 ((i1:Int) - 1))).bind fun e11=>(m_gleeref2_cameOrder e11 x2).bind fun y12=>ifB (decide (y12≥0)) (some (.ret 7)) (some (.nxt ()))) (some (.nxt ()))))
def m_gleeref2_CameFault (a0:(List TCame)):Option Int :=
  ifB (decide ((a0.length:Int)>5000)) (some 2) ((rangeM (m_gleeref2_CameFault_l1 a0) 0 a0 ()).bind fun f7=>Flow.fin f7 fun u4=>some 0)
def m_gleemake_Stream_RightCames_l1 (a0_0:(List Int)) (a1:Int) (i1:Nat) (x2:Nat) (u4:Int):Option (Flow Int ((List TCame) × Int)) :=
  (m_gleemake_Stream_Cames a0_0 u4 a1).bind fun y8=>(m_gleeref2_CameFault y8.1).bind fun y10=>ifB (y10==0) (some (.ret (y8.1,y8.2))) (some (.nxt y8.2))
def m_gleemake_Stream_RightCames (a0_0:(List Int)) (a0_1:Int) (a1:Int):Option ((List TCame) × Int) :=
  (rangeI 5).bind fun L12=>(rangeM (m_gleemake_Stream_RightCames_l1 a0_0 a1) 0 L12 a0_1).bind fun f7=>Flow.fin f7 fun u4=>some ([],u4)
def m_gleemake_Stream_Wishes_l1 (a0_0:(List Int)) (i2:Nat) (x3:ByteArray) (u6:(Int × (List TWish))):Option (Flow (Int × (List TWish)) ((List TWish) × Int)) :=
  (m_gleemake_Stream_Flip a0_0 u6.1 4).bind fun y11=>ifB y11.1 (some (.nxt (y11.2,u6.2))) ((m_gleemake_Stream_Pick a0_0 y11.2 [1,20,40,60]).bind fun y13=>(m_gleemake_Stream_Flip a0_0 y13.2 50).bind fun y15=>(ifB y15.1 ((m_gleemake_Stream_Some a0_0 y15.2 [ByteArray.empty,(ByteArray.mk [103,108,111,114,105,97].toArray)]).bind fun y20=>(m_gleemake_Stream_Odd a0_0 y20.2 1 86400000).bind fun y21=>some (.inl (y21.2,y20.1,y21.1))) (some (.inl (y15.2,x3,y13.1))):Option ((Int × ByteArray × Int) ⊕ (Flow (Int × (List TWish)) ((List TWish) × Int)))).bind fun k18=>Sum.fin k18 fun u16=>(appM 24 u6.2 [(TWish.mk u16.2.1 u16.2.2)]).bind fun q23=>some (.nxt (u16.1,q23)))
def m_gleemake_Stream_Wishes (a0_0:(List Int)) (a0_1:Int):Option ((List TWish) × Int) :=
  (rangeM (m_gleemake_Stream_Wishes_l1 a0_0) 0 [(ByteArray.mk [103,108,111,114,105,97].toArray),(ByteArray.mk [107,121,114,105,101].toArray),(ByteArray.mk [115,97,110,99,116,117,115].toArray)] (a0_1,[])).bind fun f9=>Flow.fin f9 fun u6=>some (u6.2,u6.1)
def m_kit_Outside (a0:Int) (a1:Int) (a2:Int):Option Bool :=
  ifB (decide (a0<a1)) (some true) (some (decide (a0>a2)))
def m_kit_IsMoment (a0:Int):Option Bool :=
  (m_kit_Outside a0 0 345686399999).bind fun y1=>some (!y1)
def m_kit_IsKey (a0:ByteArray):Option Bool :=
  ifB (!(a0.toList==ByteArray.empty.toList)) (ifB (decide ((a0.size:Int)≤40)) ((strI a0 0).bind fun c1=>(m_strings_IndexByte (ByteArray.mk [97,98,99,100,101,102,103,104,105,106,107,108,109,110,111,112,113,114,115,116,117,118,119,120,121,122].toArray) c1).bind fun y2=>ifB (decide (y2≥0)) ((m_strings_Trim a0 (ByteArray.mk [97,98,99,100,101,102,103,104,105,106,107,108,109,110,111,112,113,114,115,116,117,118,119,120,121,122,48,49,50,51,52,53,54,55,56,57,45,95].toArray)).bind fun y3=>some (y3.toList==ByteArray.empty.toList)) (some false)) (some false)) (some false)
def m_rehearse_flagNumber (a0:Bool):Option Int :=
  ifB a0 (some 1) (some 0)
def m_cmp_Or_int_l1  (i1:Nat) (x2:Int) (u4:Unit):Option (Flow Unit Int) :=
  ifB (x2 != 0) (some (.ret x2)) (some (.nxt ()))
def m_cmp_Or_int (a0:(List Int)):Option Int :=
  (rangeM m_cmp_Or_int_l1 0 a0 ()).bind fun f7=>Flow.fin f7 fun u4=>some 0
def m_rehearse_compareCame (a0:TCame) (a1:TCame):Option Int :=
  (m_cmp_Compare_int a0.At a1.At).bind fun y3=>(m_strings_Compare a0.Singer a1.Singer).bind fun y4=>(m_rehearse_flagNumber a0.Left).bind fun y5=>(m_rehearse_flagNumber a1.Left).bind fun y6=>(m_cmp_Compare_int y5 y6).bind fun y7=>(m_cmp_Or_int [y3,y4,y7]).bind fun y9=>some y9
def m_rehearse_CheckCame_l1 (a0:(List TCame)) (i1:Nat) (x2:TCame) (u4:Unit):Option (Flow Unit Int) :=
  (m_kit_IsMoment x2.At).bind fun y9=>ifB (!y9) (some (.ret 1)) ((m_kit_IsKey x2.Singer).bind fun y10=>ifB (!y10) (some (.ret 5)) (ifB (decide ((i1:Int)>0)) ((getI a0 (w64 ((i1:Int) - 1))).bind fun e11=>(m_rehearse_compareCame e11 x2).bind fun y12=>ifB (decide (y12≥0)) (some (.ret 7)) (some (.nxt ()))) (some (.nxt ()))))
def m_rehearse_CheckCame (a0:(List TCame)):Option Int :=
  ifB (decide ((a0.length:Int)>5000)) (some 2) ((rangeM (m_rehearse_CheckCame_l1 a0) 0 a0 ()).bind fun f7=>Flow.fin f7 fun u4=>some 0)
def m_slices_insertionSortCmpFunc_api_Came__rehearse_compareCame_l2 (a1:Int) (u5:(Int × (List TCame))):Option (Flow (Int × (List TCame)) (Flow (Int × (List TCame)) (List TCame))) :=
  ifB (decide (u5.1>a1)) ((getI u5.2 u5.1).bind fun e9=>(getI u5.2 (w64 (u5.1 - 1))).bind fun e10=>(m_rehearse_compareCame e9 e10).bind fun y11=>ifB (decide (y11<0)) ((getI u5.2 (w64 (u5.1 - 1))).bind fun e12=>(getI u5.2 u5.1).bind fun e13=>(getI u5.2 u5.1).bind fun e14=>(getI (u5.2.set u5.1.toNat e12) (w64 (u5.1 - 1))).bind fun e15=>some (.nxt (w64 (u5.1 - 1),((u5.2.set u5.1.toNat e12).set ((w64 (u5.1 - 1)).toNat) e13)))) (some (.brk (u5.1,u5.2)))) (some (.brk (u5.1,u5.2)))
def m_slices_insertionSortCmpFunc_api_Came__rehearse_compareCame_l1 (a1:Int) (a2:Int) (u1:(Int × (List TCame))):Option (Flow (Int × (List TCame)) (List TCame)) :=
  ifB (decide (u1.1<a2)) ((loopM (m_slices_insertionSortCmpFunc_api_Came__rehearse_compareCame_l2 a1) (u1.1,u1.2)).bind fun f8=>Flow.fin f8 fun u5=>some (.nxt (w64 (u1.1+1),u5.2))) (some (.brk (u1.1,u1.2)))
def m_slices_insertionSortCmpFunc_api_Came__rehearse_compareCame (a0:(List TCame)) (a1:Int) (a2:Int):Option (List TCame) :=
  (loopM (m_slices_insertionSortCmpFunc_api_Came__rehearse_compareCame_l1 a1 a2) (w64 (a1+1),a0)).bind fun f4=>Flow.fin f4 fun u1=>some u1.2
def m_slices_pdqsortCmpFunc_api_Came__rehearse_compareCame_l1 (a0:(List TCame)) (a1:Int) (a2:Int) (a3:Int) (u1:Unit):Option (Flow Unit (List TCame)) :=
  ifB (decide ((w64 (a2 - a1))≤12)) ((m_slices_insertionSortCmpFunc_api_Came__rehearse_compareCame a0 a1 a2).bind fun y5=>some (.ret y5)) (ifB (a3==0) (none) ((ifB (!true) (none) (some (.inl ())):Option (Unit ⊕ (Flow Unit (List TCame)))).bind fun k8=>Sum.fin k8 fun u6=>none))
def m_slices_pdqsortCmpFunc_api_Came__rehearse_compareCame (a0:(List TCame)) (a1:Int) (a2:Int) (a3:Int):Option (List TCame) :=
  (loopM (m_slices_pdqsortCmpFunc_api_Came__rehearse_compareCame_l1 a0 a1 a2 a3) ()).bind fun f4=>Flow.fin f4 fun u1=>some a0
def m_slices_SortFunc_api_Came_api_Came__rehearse_compareCame (a0:(List TCame)):Option (List TCame) :=
  (m_bits_Len (IntKind.wrap .u64 (a0.length:Int))).bind fun y1=>(m_slices_pdqsortCmpFunc_api_Came__rehearse_compareCame a0 0 (a0.length:Int) y1).bind fun y2=>some y2
def m_rehearse_MergeCame_l1  (i2:Nat) (x3:(List TCame)) (u5:Unit):Option (Flow Unit ((List TCame) × Int)) :=
  (m_rehearse_CheckCame x3).bind fun y9=>ifB (y9 != 0) (some (.ret ([],y9))) (some (.nxt ()))
def m_rehearse_MergeCame (a0:(List TCame)) (a1:(List TCame)):Option ((List TCame) × Int) :=
  (rangeM m_rehearse_MergeCame_l1 0 [a0,a1] ()).bind fun f8=>Flow.fin f8 fun u5=>(m_slices_Concat_api_Came_api_Came [a0,a1]).bind fun y12=>(m_slices_SortFunc_api_Came_api_Came__rehearse_compareCame y12).bind fun y14=>(m_slices_Compact_api_Came_api_Came y14).bind fun y15=>ifB (decide ((y15.length:Int)>5000)) (some ([],2)) (some (y15,0))
def m_gleekeep2_spoil_api_Came_l1  (i2:Nat) (x3:TCame) (u5:(List TCame)):Option (Flow (List TCame) (List TCame)) :=
  (getI u5 (i2:Int)).bind fun e9=>some (.nxt (u5.set ((i2:Int).toNat) (TCame.mk 0 ByteArray.empty false)))
def m_gleekeep2_spoil_api_Came (a0:(List TCame)):Option (List TCame) :=
  (rangeM m_gleekeep2_spoil_api_Came_l1 0 a0 a0).bind fun f8=>Flow.fin f8 fun u5=>some u5
def m_rehearse_slotFault_1 (a0:TSlot) (a1_0:ByteArray) (a1_1:ByteArray) (a1_2:ByteArray) (a1_3:(List ByteArray)) (a1_4:Int) (a1_5:Int):Option Bool :=
  some (a0.Key.toList==a1_0.toList)
def m_slices_IndexFunc_api_Slot_api_Slot__rehearse_slotFault_1_l1 (a1_c0_0:ByteArray) (a1_c0_1:ByteArray) (a1_c0_2:ByteArray) (a1_c0_3:(List ByteArray)) (a1_c0_4:Int) (a1_c0_5:Int) (i1:Nat) (x2:TSlot) (u4:Unit):Option (Flow Unit Int) :=
  (m_rehearse_slotFault_1 x2 a1_c0_0 a1_c0_1 a1_c0_2 a1_c0_3 a1_c0_4 a1_c0_5).bind fun y8=>ifB y8 (some (.ret (i1:Int))) (some (.nxt ()))
def m_slices_IndexFunc_api_Slot_api_Slot__rehearse_slotFault_1 (a0:(List TSlot)) (a1_c0_0:ByteArray) (a1_c0_1:ByteArray) (a1_c0_2:ByteArray) (a1_c0_3:(List ByteArray)) (a1_c0_4:Int) (a1_c0_5:Int):Option Int :=
  (rangeM (m_slices_IndexFunc_api_Slot_api_Slot__rehearse_slotFault_1_l1 a1_c0_0 a1_c0_1 a1_c0_2 a1_c0_3 a1_c0_4 a1_c0_5) 0 a0 ()).bind fun f7=>Flow.fin f7 fun u4=>some (-1)
def m_slices_ContainsFunc_api_Slot_api_Slot__rehearse_slotFault_1 (a0:(List TSlot)) (a1_c0_0:ByteArray) (a1_c0_1:ByteArray) (a1_c0_2:ByteArray) (a1_c0_3:(List ByteArray)) (a1_c0_4:Int) (a1_c0_5:Int):Option Bool :=
  (m_slices_IndexFunc_api_Slot_api_Slot__rehearse_slotFault_1 a0 a1_c0_0 a1_c0_1 a1_c0_2 a1_c0_3 a1_c0_4 a1_c0_5).bind fun y1=>some (decide (y1≥0))
def m_rehearse_namesFault_l1 (a0:(List ByteArray)) (i1:Nat) (x2:ByteArray) (u4:Unit):Option (Flow Unit Int) :=
  (m_kit_IsKey x2).bind fun y8=>ifB (!y8) (some (.ret 5)) ((ifB (decide ((i1:Int)>0)) ((getI a0 (w64 ((i1:Int) - 1))).bind fun e12=>some (.inl (Op.bytesLess x2.toList e12.toList||x2.toList==e12.toList))) (some (.inl false)):Option (Bool ⊕ (Flow Unit Int))).bind fun k11=>Sum.fin k11 fun u9=>ifB u9 (some (.ret 7)) (some (.nxt ())))
def m_rehearse_namesFault (a0:(List ByteArray)):Option Int :=
  (rangeM (m_rehearse_namesFault_l1 a0) 0 a0 ()).bind fun f7=>Flow.fin f7 fun u4=>some 0
def m_kit_IsTime (a0:TWindow):Option Bool :=
  ifB (decide (a0.From≥0)) (ifB (decide (a0.From<a0.To)) (some (decide (a0.To≤345686400000))) (some false)) (some false)
def m_rehearse_slotFault (a0:(List TSlot)) (a1:Int):Option Int :=
  (getI a0 a1).bind fun e1=>((m_kit_IsKey e1.Key).bind fun y6=>ifB (!y6) (some (.inl true)) ((m_kit_IsKey e1.Room).bind fun y7=>ifB (!y7) (some (.inl true)) ((m_kit_IsKey e1.Piece).bind fun y8=>some (.inl (!y8)))):Option (Bool ⊕ Int)).bind fun k5=>Sum.fin k5 fun u3=>ifB u3 (some 5) ((sliceI a0 0 a1).bind fun q9=>(m_slices_ContainsFunc_api_Slot_api_Slot__rehearse_slotFault_1 q9 e1.Key e1.Room e1.Piece e1.Parts e1.Time.From e1.Time.To).bind fun y10=>ifB y10 (some 6) (ifB (decide ((e1.Parts.length:Int)>12)) (some 2) ((m_rehearse_namesFault e1.Parts).bind fun y11=>ifB (y11 != 0) (some y11) ((m_kit_IsTime e1.Time).bind fun y12=>ifB (!y12) (some 1) ((ifB (decide (a1>0)) ((getI a0 (w64 (a1 - 1))).bind fun e16=>(m_cmp_Compare_int e16.Time.From e1.Time.From).bind fun y17=>(getI a0 (w64 (a1 - 1))).bind fun e18=>(m_strings_Compare e18.Key e1.Key).bind fun y19=>(m_cmp_Or_int [y17,y19]).bind fun y21=>some (.inl (decide (y21≥0)))) (some (.inl false)):Option (Bool ⊕ Int)).bind fun k15=>Sum.fin k15 fun u13=>ifB u13 (some 7) (some 0))))))
def m_rehearse_meet (a0:TWindow) (a1:TWindow):Option Bool :=
  ifB (decide (a0.From<a1.To)) (some (decide (a1.From<a0.To))) (some false)
def m_rehearse_CheckSlots_l3 (x10:TSlot) (i18:Nat) (x19:TSlot) (u21:Unit):Option (Flow Unit (Flow Unit Int)) :=
  (ifB (x10.Room.toList==x19.Room.toList) ((m_rehearse_meet x10.Time x19.Time).bind fun y29=>some (.inl y29)) (some (.inl false)):Option (Bool ⊕ (Flow Unit (Flow Unit Int)))).bind fun k28=>Sum.fin k28 fun u26=>ifB u26 (some (.ret (.ret 13))) (some (.nxt ()))
def m_rehearse_CheckSlots_l2 (a0:(List TSlot)) (i9:Nat) (x10:TSlot) (u12:Unit):Option (Flow Unit Int) :=
  (sliceI a0 0 (i9:Int)).bind fun q17=>(rangeM (m_rehearse_CheckSlots_l3 x10) 0 q17 ()).bind fun f24=>Flow.fin f24 fun u21=>some (.nxt ())
def m_rehearse_CheckSlots_l1 (a0:(List TSlot)) (i1:Nat) (x2:TSlot) (u4:Unit):Option (Flow Unit Int) :=
  (m_rehearse_slotFault a0 (i1:Int)).bind fun y8=>ifB (y8 != 0) (some (.ret y8)) (some (.nxt ()))
def m_rehearse_CheckSlots (a0:(List TSlot)):Option Int :=
  ifB (decide ((a0.length:Int)>300)) (some 2) ((rangeM (m_rehearse_CheckSlots_l1 a0) 0 a0 ()).bind fun f7=>Flow.fin f7 fun u4=>(rangeM (m_rehearse_CheckSlots_l2 a0) 0 a0 ()).bind fun f15=>Flow.fin f15 fun u12=>some 0)
def m_rehearse_CheckSings_l1 (a0:(List TSings)) (i1:Nat) (x2:TSings) (u4:Unit):Option (Flow Unit Int) :=
  ((m_kit_IsKey x2.Singer).bind fun y12=>ifB (!y12) (some (.inl true)) ((m_kit_IsKey x2.Piece).bind fun y13=>ifB (!y13) (some (.inl true)) ((m_kit_IsKey x2.Part).bind fun y14=>some (.inl (!y14)))):Option (Bool ⊕ (Flow Unit Int))).bind fun k11=>Sum.fin k11 fun u9=>ifB u9 (some (.ret 5)) (ifB ((i1:Int)==0) (some (.nxt ())) ((getI a0 (w64 ((i1:Int) - 1))).bind fun e15=>(m_strings_Compare e15.Singer x2.Singer).bind fun y16=>(getI a0 (w64 ((i1:Int) - 1))).bind fun e17=>(m_strings_Compare e17.Piece x2.Piece).bind fun y18=>(m_cmp_Or_int [y16,y18]).bind fun y20=>ifB (y20==0) (some (.ret 6)) (ifB (decide (y20>0)) (some (.ret 7)) (some (.nxt ())))))
def m_rehearse_CheckSings (a0:(List TSings)):Option Int :=
  ifB (decide ((a0.length:Int)>5000)) (some 2) ((rangeM (m_rehearse_CheckSings_l1 a0) 0 a0 ()).bind fun f7=>Flow.fin f7 fun u4=>some 0)
def m_rehearse_slotsFault (a0:(List TSlot)) (a1:(List TSings)):Option Int :=
  (m_rehearse_CheckSlots a0).bind fun y1=>ifB (y1 != 0) (some y1) ((m_rehearse_CheckSings a1).bind fun y2=>some y2)
def m_rehearse_joined_l1  (i1:Nat) (x2:TWindow) (u5:(List TWindow)):Option (Flow (List TWindow) (List TWindow)) :=
  ifB (decide ((w64 ((u5.length:Int) - 1))≥0)) ((getI u5 (w64 ((u5.length:Int) - 1))).bind fun e11=>ifB (decide (x2.From≤e11.To)) ((getI u5 (w64 ((u5.length:Int) - 1))).bind fun e12=>(getI u5 (w64 ((u5.length:Int) - 1))).bind fun e13=>some (.nxt (u5.set ((w64 ((u5.length:Int) - 1)).toNat) (TWindow.mk e13.From (max e12.To x2.To))))) ((appM 16 u5 [x2]).bind fun q15=>some (.nxt q15))) ((appM 16 u5 [x2]).bind fun q18=>some (.nxt q18))
def m_rehearse_joined (a0:(List TWindow)):Option (List TWindow) :=
  (rangeM m_rehearse_joined_l1 0 a0 []).bind fun f8=>Flow.fin f8 fun u5=>some u5
def m_rehearse_presences_l3  (i50:Nat) (x51:ByteArray) (u57:(List (ByteArray × (List TWindow)))):Option (Flow (List (ByteArray × (List TWindow))) (List (ByteArray × (List TWindow)))) :=
  (m_rehearse_joined ((lkM u57 x51).getD [])).bind fun y62=>some (.nxt (putM u57 x51 y62))
def m_rehearse_presences_l2  (i33:Nat) (x34:(ByteArray × Int)) (u38:(List (ByteArray × (List TWindow)))):Option (Flow (List (ByteArray × (List TWindow))) (List (ByteArray × (List TWindow)))) :=
  (appM 16 ((lkM u38 x34.1).getD []) [(TWindow.mk x34.2 345686400000)]).bind fun q44=>some (.nxt (putM u38 x34.1 q44))
def m_rehearse_presences_l1  (i3:Nat) (x4:TCame) (u6:((List (ByteArray × Int)) × (List (ByteArray × (List TWindow))))):Option (Flow ((List (ByteArray × Int)) × (List (ByteArray × (List TWindow)))) (List (ByteArray × (List TWindow)))) :=
  (ifB (!x4.Left) (some (.inl (!(hasM u6.1 x4.Singer)))) (some (.inl false)):Option (Bool ⊕ (Flow ((List (ByteArray × Int)) × (List (ByteArray × (List TWindow)))) (List (ByteArray × (List TWindow)))))).bind fun k13=>Sum.fin k13 fun u11=>ifB u11 (some (.nxt (putM u6.1 x4.Singer x4.At,u6.2))) ((ifB x4.Left (some (.inl (hasM u6.1 x4.Singer))) (some (.inl false)):Option (Bool ⊕ (Flow ((List (ByteArray × Int)) × (List (ByteArray × (List TWindow)))) (List (ByteArray × (List TWindow)))))).bind fun k18=>Sum.fin k18 fun u16=>ifB u16 (ifB (decide (((lkM u6.1 x4.Singer).getD 0)<x4.At)) ((appM 16 ((lkM u6.2 x4.Singer).getD []) [(TWindow.mk ((lkM u6.1 x4.Singer).getD 0) x4.At)]).bind fun q22=>some (.nxt (delM u6.1 x4.Singer,putM u6.2 x4.Singer q22))) (some (.nxt (delM u6.1 x4.Singer,u6.2)))) (some (.nxt (u6.1,u6.2))))
def m_rehearse_presences (a0:(List TCame)):Option (List (ByteArray × (List TWindow))) :=
  (rangeM m_rehearse_presences_l1 0 a0 ([],[])).bind fun f9=>Flow.fin f9 fun u6=>anyOrd u6.1 fun L41=>(rangeM m_rehearse_presences_l2 0 L41 u6.2).bind fun f69=>Flow.fin f69 fun u38=>anyOrd (u38.map Prod.fst) fun L60=>(rangeM m_rehearse_presences_l3 0 L60 u38).bind fun f68=>Flow.fin f68 fun u57=>some (canonM u57)
def m_rehearse_keeperOf (a0:(List TSlot)) (a1:(List TSings)) (a2:(List TCame)):Option ((Option (List (ByteArray × (List TWindow)))) × Int) :=
  (m_rehearse_slotsFault a0 a1).bind fun y1=>ifB (y1 != 0) (some (none,y1)) ((m_rehearse_CheckCame a2).bind fun y2=>ifB (y2 != 0) (some (none,y2)) ((m_rehearse_presences a2).bind fun y3=>anyOrd y3 fun q8=>some (some (canonM q8),0)))
def m_rehearse_CheckWishes_l1 (a0:(List TWish)) (i1:Nat) (x2:TWish) (u4:Unit):Option (Flow Unit Int) :=
  (m_kit_IsKey x2.Piece).bind fun y9=>ifB (!y9) (some (.ret 5)) ((m_kit_Outside x2.Need 1 86400000).bind fun y10=>ifB y10 (some (.ret 1)) (ifB (decide ((i1:Int)>0)) ((getI a0 (w64 ((i1:Int) - 1))).bind fun e11=>ifB (Op.bytesLess x2.Piece.toList e11.Piece.toList||x2.Piece.toList==e11.Piece.toList) (some (.ret 7)) (some (.nxt ()))) (some (.nxt ()))))
def m_rehearse_CheckWishes (a0:(List TWish)):Option Int :=
  ifB (decide ((a0.length:Int)>200)) (some 2) ((rangeM (m_rehearse_CheckWishes_l1 a0) 0 a0 ()).bind fun f7=>Flow.fin f7 fun u4=>some 0)
def m_rehearse_needOf_1 (a0:TWish) (a1:ByteArray):Option Int :=
  (m_strings_Compare a0.Piece a1).bind fun y2=>some y2
def m_slices_BinarySearchFunc_api_Wish_api_Wish_string__rehearse_needOf_1_l1 (a0:(List TWish)) (a1:ByteArray) (u1:(Int × Int)):Option (Flow (Int × Int) (Int × Bool)) :=
  ifB (decide (u1.1<u1.2)) ((shrM (IntKind.wrap .u64 (w64 (u1.1+u1.2))) 1).bind fun z5=>(getI a0 (IntKind.wrap .i64 z5)).bind fun e6=>(m_rehearse_needOf_1 e6 a1).bind fun y7=>ifB (decide (y7<0)) (some (.nxt (w64 ((IntKind.wrap .i64 z5)+1),u1.2))) (some (.nxt (u1.1,(IntKind.wrap .i64 z5))))) (some (.brk (u1.1,u1.2)))
def m_slices_BinarySearchFunc_api_Wish_api_Wish_string__rehearse_needOf_1 (a0:(List TWish)) (a1:ByteArray):Option (Int × Bool) :=
  (loopM (m_slices_BinarySearchFunc_api_Wish_api_Wish_string__rehearse_needOf_1_l1 a0 a1) (0,(a0.length:Int))).bind fun f4=>Flow.fin f4 fun u1=>ifB (decide (u1.1<(a0.length:Int))) ((getI a0 u1.1).bind fun e8=>(m_rehearse_needOf_1 e8 a1).bind fun y9=>some (u1.1,y9==0)) (some (u1.1,false))
def m_rehearse_needOf (a0:(List TWish)) (a1:ByteArray):Option (Int × Bool) :=
  (m_slices_BinarySearchFunc_api_Wish_api_Wish_string__rehearse_needOf_1 a0 a1).bind fun y1=>ifB (!y1.2) (some (1,false)) ((getI a0 y1.1).bind fun e2=>some (e2.Need,true))
def m_slices_Index_string_string_l1 (a1:ByteArray) (i1:Nat) (x2:ByteArray) (u4:Unit):Option (Flow Unit Int) :=
  ifB (a1.toList==x2.toList) (some (.ret (i1:Int))) (some (.nxt ()))
def m_slices_Index_string_string (a0:(List ByteArray)) (a1:ByteArray):Option Int :=
  (rangeM (m_slices_Index_string_string_l1 a1) 0 a0 ()).bind fun f7=>Flow.fin f7 fun u4=>some (-1)
def m_slices_Contains_string_string (a0:(List ByteArray)) (a1:ByteArray):Option Bool :=
  (m_slices_Index_string_string a0 a1).bind fun y1=>some (decide (y1≥0))
def m_rehearse_isAsked (a0:TSlot) (a1:TSings):Option Bool :=
  ifB (a0.Piece.toList==a1.Piece.toList) (ifB ((a0.Parts.length:Int)==0) (some true) ((m_slices_Contains_string_string a0.Parts a1.Part).bind fun y3=>some y3)) (some false)
def m_rehearse_within_l1 (a1:TWindow) (i2:Nat) (x3:TWindow) (u6:(List TWindow)):Option (Flow (List TWindow) (List TWindow)) :=
  ifB (decide ((max x3.From a1.From)<(min x3.To a1.To))) ((appM 16 u6 [(TWindow.mk (max x3.From a1.From) (min x3.To a1.To))]).bind fun q14=>some (.nxt q14)) (some (.nxt u6))
def m_rehearse_within (a0:(List TWindow)) (a1:TWindow):Option (List TWindow) :=
  (rangeM (m_rehearse_within_l1 a1) 0 a0 []).bind fun f9=>Flow.fin f9 fun u6=>some u6
def m_rehearse_keeper_rehearsed_l3  (i32:Nat) (x33:TWindow) (u35:Int):Option (Flow Int (Flow Int Int)) :=
  some (.nxt (w64 (u35+(w64 (x33.To - x33.From)))))
def m_rehearse_keeper_rehearsed_l4  (i41:Nat) (x42:TWindow) (u44:Int):Option (Flow Int (Flow Int Int)) :=
  some (.nxt (w64 (u44+(w64 (x42.To - x42.From)))))
def m_rehearse_keeper_rehearsed_l2 (a0_2:(List (ByteArray × (List TWindow)))) (a1:TSings) (i22:Nat) (x23:TWindow) (u25:Int):Option (Flow Int Int) :=
  (m_rehearse_within ((lkM a0_2 a1.Singer).getD []) x23).bind fun y30=>(rangeM m_rehearse_keeper_rehearsed_l3 0 y30 u25).bind fun f38=>Flow.fin f38 fun u35=>some (.nxt u35)
def m_rehearse_keeper_rehearsed_l1 (a1:TSings) (a2:Int) (i2:Nat) (x3:TSlot) (u6:(List TWindow)):Option (Flow (List TWindow) Int) :=
  ((m_rehearse_isAsked x3 a1).bind fun y15=>ifB y15 (some (.inl (decide (x3.Time.From<a2)))) (some (.inl false)):Option (Bool ⊕ (Flow (List TWindow) Int))).bind fun k14=>Sum.fin k14 fun u12=>ifB u12 ((appM 16 u6 [(TWindow.mk x3.Time.From (min x3.Time.To a2))]).bind fun q17=>some (.nxt q17)) (some (.nxt u6))
def m_rehearse_keeper_rehearsed (a0_0:(List TSlot)) (a0_1:(List TSings)) (a0_2:(List (ByteArray × (List TWindow)))) (a1:TSings) (a2:Int):Option Int :=
  (rangeM (m_rehearse_keeper_rehearsed_l1 a1 a2) 0 a0_0 []).bind fun f9=>Flow.fin f9 fun u6=>(m_rehearse_joined u6).bind fun y20=>(rangeM (m_rehearse_keeper_rehearsed_l2 a0_2 a1) 0 y20 0).bind fun f28=>Flow.fin f28 fun u25=>some u25
def m_rehearse_Ready_l1 (a4:ByteArray) (i20:Nat) (x21:TSings) (u24:(List ByteArray)):Option (Flow (List ByteArray) ((List ByteArray) × Int)) :=
  (ifB (x21.Piece.toList==a4.toList) (none) (some (.inl false)):Option (Bool ⊕ (Flow (List ByteArray) ((List ByteArray) × Int)))).bind fun k32=>Sum.fin k32 fun u30=>ifB u30 ((appM 16 u24 [x21.Singer]).bind fun q34=>some (.nxt q34)) (some (.nxt u24))
def m_rehearse_Ready_l2 (a0:(List TSlot)) (a1:(List TSings)) (a4:ByteArray) (a5:Int) (q42:(List (ByteArray × (List TWindow)))) (y51:(Int × Bool)) (i52:Nat) (x53:TSings) (u56:(List ByteArray)):Option (Flow (List ByteArray) ((List ByteArray) × Int)) :=
  (ifB (x53.Piece.toList==a4.toList) ((m_rehearse_keeper_rehearsed a0 a1 q42 x53 a5).bind fun y65=>some (.inl (decide (y65≥y51.1)))) (some (.inl false)):Option (Bool ⊕ (Flow (List ByteArray) ((List ByteArray) × Int)))).bind fun k64=>Sum.fin k64 fun u62=>ifB u62 ((appM 16 u56 [x53.Singer]).bind fun q67=>some (.nxt q67)) (some (.nxt u56))
def m_rehearse_Ready (a0:(List TSlot)) (a1:(List TSings)) (a2:(List TCame)) (a3:(List TWish)) (a4:ByteArray) (a5:Int):Option ((List ByteArray) × Int) :=
  (m_rehearse_keeperOf a0 a1 a2).bind fun y1=>optB y1.1 (ifB (y1.2 != 0) (some ([],y1.2)) ((m_rehearse_CheckWishes a3).bind fun y13=>ifB (y13 != 0) (some ([],y13)) ((m_kit_IsKey a4).bind fun y15=>ifB (!y15) (some ([],5)) ((m_kit_IsMoment a5).bind fun y17=>ifB (!y17) (some ([],1)) ((m_rehearse_needOf a3 a4).bind fun y19=>(rangeM (m_rehearse_Ready_l1 a4) 0 a1 []).bind fun f27=>Flow.fin f27 fun u24=>some (u24,0)))))) (fun t2=>anyOrd t2 fun q42=>ifB (y1.2 != 0) (some ([],y1.2)) ((m_rehearse_CheckWishes a3).bind fun y45=>ifB (y45 != 0) (some ([],y45)) ((m_kit_IsKey a4).bind fun y47=>ifB (!y47) (some ([],5)) ((m_kit_IsMoment a5).bind fun y49=>ifB (!y49) (some ([],1)) ((m_rehearse_needOf a3 a4).bind fun y51=>(rangeM (m_rehearse_Ready_l2 a0 a1 a4 a5 q42 y51) 0 a1 []).bind fun f59=>Flow.fin f59 fun u56=>some (u56,0))))))
def m_gleekeep2_spoil_string_l1  (i1:Nat) (x2:ByteArray) (u4:(List ByteArray)):Option (Flow (List ByteArray) (List ByteArray)) :=
  (getI u4 (i1:Int)).bind fun e8=>some (.nxt (u4.set ((i1:Int).toNat) ByteArray.empty))
def m_gleekeep2_spoil_string (a0:(List ByteArray)):Option (List ByteArray) :=
  (rangeM m_gleekeep2_spoil_string_l1 0 a0 a0).bind fun f7=>Flow.fin f7 fun u4=>some u4
def m_rehearse_Lacking_1 (a0:Trehearse_lacking) (a1:Trehearse_lacking):Option Int :=
  (m_cmp_Compare_int a1.many a0.many).bind fun y3=>(m_strings_Compare a0.piece a1.piece).bind fun y4=>(m_cmp_Or_int [y3,y4]).bind fun y6=>some y6
def m_slices_insertionSortCmpFunc_rehearse_lacking__rehearse_Lacking_1_l2 (a1:Int) (u5:(Int × (List Trehearse_lacking))):Option (Flow (Int × (List Trehearse_lacking)) (Flow (Int × (List Trehearse_lacking)) (List Trehearse_lacking))) :=
  ifB (decide (u5.1>a1)) ((getI u5.2 u5.1).bind fun e9=>(getI u5.2 (w64 (u5.1 - 1))).bind fun e10=>(m_rehearse_Lacking_1 e9 e10).bind fun y11=>ifB (decide (y11<0)) ((getI u5.2 (w64 (u5.1 - 1))).bind fun e12=>(getI u5.2 u5.1).bind fun e13=>(getI u5.2 u5.1).bind fun e14=>(getI (u5.2.set u5.1.toNat e12) (w64 (u5.1 - 1))).bind fun e15=>some (.nxt (w64 (u5.1 - 1),((u5.2.set u5.1.toNat e12).set ((w64 (u5.1 - 1)).toNat) e13)))) (some (.brk (u5.1,u5.2)))) (some (.brk (u5.1,u5.2)))
def m_slices_insertionSortCmpFunc_rehearse_lacking__rehearse_Lacking_1_l1 (a1:Int) (a2:Int) (u1:(Int × (List Trehearse_lacking))):Option (Flow (Int × (List Trehearse_lacking)) (List Trehearse_lacking)) :=
  ifB (decide (u1.1<a2)) ((loopM (m_slices_insertionSortCmpFunc_rehearse_lacking__rehearse_Lacking_1_l2 a1) (u1.1,u1.2)).bind fun f8=>Flow.fin f8 fun u5=>some (.nxt (w64 (u1.1+1),u5.2))) (some (.brk (u1.1,u1.2)))
def m_slices_insertionSortCmpFunc_rehearse_lacking__rehearse_Lacking_1 (a0:(List Trehearse_lacking)) (a1:Int) (a2:Int):Option (List Trehearse_lacking) :=
  (loopM (m_slices_insertionSortCmpFunc_rehearse_lacking__rehearse_Lacking_1_l1 a1 a2) (w64 (a1+1),a0)).bind fun f4=>Flow.fin f4 fun u1=>some u1.2
def m_slices_pdqsortCmpFunc_rehearse_lacking__rehearse_Lacking_1_l1 (a0:(List Trehearse_lacking)) (a1:Int) (a2:Int) (a3:Int) (u1:Unit):Option (Flow Unit (List Trehearse_lacking)) :=
  ifB (decide ((w64 (a2 - a1))≤12)) ((m_slices_insertionSortCmpFunc_rehearse_lacking__rehearse_Lacking_1 a0 a1 a2).bind fun y5=>some (.ret y5)) (ifB (a3==0) (none) ((ifB (!true) (none) (some (.inl ())):Option (Unit ⊕ (Flow Unit (List Trehearse_lacking)))).bind fun k8=>Sum.fin k8 fun u6=>none))
def m_slices_pdqsortCmpFunc_rehearse_lacking__rehearse_Lacking_1 (a0:(List Trehearse_lacking)) (a1:Int) (a2:Int) (a3:Int):Option (List Trehearse_lacking) :=
  (loopM (m_slices_pdqsortCmpFunc_rehearse_lacking__rehearse_Lacking_1_l1 a0 a1 a2 a3) ()).bind fun f4=>Flow.fin f4 fun u1=>some a0
def m_slices_SortFunc_rehearse_lacking_rehearse_lacking__rehearse_Lacking_1 (a0:(List Trehearse_lacking)):Option (List Trehearse_lacking) :=
  (m_bits_Len (IntKind.wrap .u64 (a0.length:Int))).bind fun y1=>(m_slices_pdqsortCmpFunc_rehearse_lacking__rehearse_Lacking_1 a0 0 (a0.length:Int) y1).bind fun y2=>some y2
def m_rehearse_Lacking_l3  (i45:Nat) (x46:Trehearse_lacking) (u49:(List TPair)):Option (Flow (List TPair) ((List TPair) × Int)) :=
  (m_strconv_Itoa x46.many).bind fun y55=>(appM 32 u49 [(TPair.mk x46.piece y55)]).bind fun q57=>some (.nxt q57)
def m_rehearse_Lacking_l2  (i29:Nat) (x30:(ByteArray × Int)) (u35:(List Trehearse_lacking)):Option (Flow (List Trehearse_lacking) ((List TPair) × Int)) :=
  (appM 24 u35 [(Trehearse_lacking.mk x30.1 x30.2)]).bind fun q41=>some (.nxt q41)
def m_rehearse_Lacking_l1 (a3:(List TWish)) (i18:Nat) (x19:TSings) (u21:Unit):Option (Flow Unit ((List TPair) × Int)) :=
  (m_rehearse_needOf a3 x19.Piece).bind fun y26=>ifB y26.2 (none) (some (.nxt ()))
def m_rehearse_Lacking_l6  (i110:Nat) (x111:Trehearse_lacking) (u114:(List TPair)):Option (Flow (List TPair) ((List TPair) × Int)) :=
  (m_strconv_Itoa x111.many).bind fun y120=>(appM 32 u114 [(TPair.mk x111.piece y120)]).bind fun q122=>some (.nxt q122)
def m_rehearse_Lacking_l5  (i94:Nat) (x95:(ByteArray × Int)) (u100:(List Trehearse_lacking)):Option (Flow (List Trehearse_lacking) ((List TPair) × Int)) :=
  (appM 24 u100 [(Trehearse_lacking.mk x95.1 x95.2)]).bind fun q106=>some (.nxt q106)
def m_rehearse_Lacking_l4 (a0:(List TSlot)) (a1:(List TSings)) (a3:(List TWish)) (a4:Int) (q69:(List (ByteArray × (List TWindow)))) (i77:Nat) (x78:TSings) (u80:(List (ByteArray × Int))):Option (Flow (List (ByteArray × Int)) ((List TPair) × Int)) :=
  (m_rehearse_needOf a3 x78.Piece).bind fun y85=>ifB y85.2 ((m_rehearse_keeper_rehearsed a0 a1 q69 x78 a4).bind fun y86=>(m_rehearse_flagNumber (decide (y86<y85.1))).bind fun y87=>some (.nxt (putM u80 x78.Piece (w64 (((lkM u80 x78.Piece).getD 0)+y87))))) (some (.nxt u80))
def m_rehearse_Lacking (a0:(List TSlot)) (a1:(List TSings)) (a2:(List TCame)) (a3:(List TWish)) (a4:Int):Option ((List TPair) × Int) :=
  (m_rehearse_keeperOf a0 a1 a2).bind fun y1=>optB y1.1 (ifB (y1.2 != 0) (some ([],y1.2)) ((m_rehearse_CheckWishes a3).bind fun y13=>ifB (y13 != 0) (some ([],y13)) ((m_kit_IsMoment a4).bind fun y15=>ifB (!y15) (some ([],1)) ((rangeM (m_rehearse_Lacking_l1 a3) 0 a1 ()).bind fun f24=>Flow.fin f24 fun u21=>anyOrd [] fun L38=>(rangeM m_rehearse_Lacking_l2 0 L38 []).bind fun f63=>Flow.fin f63 fun u35=>(m_slices_SortFunc_rehearse_lacking_rehearse_lacking__rehearse_Lacking_1 u35).bind fun y44=>(rangeM m_rehearse_Lacking_l3 0 y44 []).bind fun f52=>Flow.fin f52 fun u49=>some (u49,0))))) (fun t2=>anyOrd t2 fun q69=>ifB (y1.2 != 0) (some ([],y1.2)) ((m_rehearse_CheckWishes a3).bind fun y72=>ifB (y72 != 0) (some ([],y72)) ((m_kit_IsMoment a4).bind fun y74=>ifB (!y74) (some ([],1)) ((rangeM (m_rehearse_Lacking_l4 a0 a1 a3 a4 q69) 0 a1 []).bind fun f83=>Flow.fin f83 fun u80=>anyOrd u80 fun L103=>(rangeM m_rehearse_Lacking_l5 0 L103 []).bind fun f128=>Flow.fin f128 fun u100=>(m_slices_SortFunc_rehearse_lacking_rehearse_lacking__rehearse_Lacking_1 u100).bind fun y109=>(rangeM m_rehearse_Lacking_l6 0 y109 []).bind fun f117=>Flow.fin f117 fun u114=>some (u114,0)))))
def m_gleekeep2_spoil_api_Pair_l1  (i2:Nat) (x3:TPair) (u5:(List TPair)):Option (Flow (List TPair) (List TPair)) :=
  (getI u5 (i2:Int)).bind fun e9=>some (.nxt (u5.set ((i2:Int).toNat) (TPair.mk ByteArray.empty ByteArray.empty)))
def m_gleekeep2_spoil_api_Pair (a0:(List TPair)):Option (List TPair) :=
  (rangeM m_gleekeep2_spoil_api_Pair_l1 0 a0 a0).bind fun f8=>Flow.fin f8 fun u5=>some u5
def m_rehearse_CheckAway_l1 (a0:(List TAway)) (i1:Nat) (x2:TAway) (u4:Unit):Option (Flow Unit Int) :=
  (m_kit_IsKey x2.Singer).bind fun y9=>ifB (!y9) (some (.ret 5)) ((m_kit_IsTime x2.Time).bind fun y10=>ifB (!y10) (some (.ret 1)) ((ifB (decide ((i1:Int)>0)) ((getI a0 (w64 ((i1:Int) - 1))).bind fun e14=>(m_strings_Compare e14.Singer x2.Singer).bind fun y15=>(getI a0 (w64 ((i1:Int) - 1))).bind fun e16=>(m_cmp_Compare_int e16.Time.From x2.Time.From).bind fun y17=>(m_cmp_Or_int [y15,y17]).bind fun y19=>some (.inl (decide (y19≥0)))) (some (.inl false)):Option (Bool ⊕ (Flow Unit Int))).bind fun k13=>Sum.fin k13 fun u11=>ifB u11 (some (.ret 7)) (some (.nxt ()))))
def m_rehearse_CheckAway (a0:(List TAway)):Option Int :=
  ifB (decide ((a0.length:Int)>1000)) (some 2) ((rangeM (m_rehearse_CheckAway_l1 a0) 0 a0 ()).bind fun f7=>Flow.fin f7 fun u4=>some 0)
def m_rehearse_planFault_l1 (a0:(List TWindow)) (i1:Nat) (x2:TWindow) (u4:Unit):Option (Flow Unit Int) :=
  (m_kit_IsTime x2).bind fun y9=>ifB (!y9) (some (.ret 1)) (ifB (decide ((i1:Int)>0)) ((getI a0 (w64 ((i1:Int) - 1))).bind fun e10=>ifB (decide (x2.From<e10.To)) (some (.ret 7)) (some (.nxt ()))) (some (.nxt ())))
def m_rehearse_planFault (a0:(List TWindow)) (a1:(List ByteArray)):Option Int :=
  ifB (decide ((a0.length:Int)>6)) (some 2) ((rangeM (m_rehearse_planFault_l1 a0) 0 a0 ()).bind fun f7=>Flow.fin f7 fun u4=>(ifB (decide ((a0.length:Int)>0)) (some (.inl ((a1.length:Int)==0))) (some (.inl false)):Option (Bool ⊕ Int)).bind fun k13=>Sum.fin k13 fun u11=>ifB u11 (some 8) (ifB (decide ((a1.length:Int)>6)) (some 2) ((m_rehearse_namesFault a1).bind fun y14=>some y14)))
def m_rehearse_aways_l2  (i23:Nat) (x24:ByteArray) (u30:(List (ByteArray × (List TWindow)))):Option (Flow (List (ByteArray × (List TWindow))) (List (ByteArray × (List TWindow)))) :=
  (m_rehearse_joined ((lkM u30 x24).getD [])).bind fun y35=>some (.nxt (putM u30 x24 y35))
def m_rehearse_aways_l1  (i2:Nat) (x3:TAway) (u5:(List (ByteArray × (List TWindow)))):Option (Flow (List (ByteArray × (List TWindow))) (List (ByteArray × (List TWindow)))) :=
  (appM 16 ((lkM u5 x3.Singer).getD []) [x3.Time]).bind fun q12=>some (.nxt (putM u5 x3.Singer q12))
def m_rehearse_aways (a0:(List TAway)):Option (List (ByteArray × (List TWindow))) :=
  (rangeM m_rehearse_aways_l1 0 a0 []).bind fun f8=>Flow.fin f8 fun u5=>anyOrd (u5.map Prod.fst) fun L33=>(rangeM m_rehearse_aways_l2 0 L33 u5).bind fun f41=>Flow.fin f41 fun u30=>some u30
def m_rehearse_lacksOf_l3  (i26:Nat) (x27:TWindow) (u29:Int):Option (Flow Int (Flow (List Int) (Flow (List Int) (List Int)))) :=
  some (.nxt (w64 (u29 - (w64 (x27.To - x27.From)))))
def m_rehearse_lacksOf_l5 (u18:(List Int)) (i38:Nat) (i46:Nat) (x47:TWindow) (u49:Int):Option (Flow Int (Flow (List Int) (Flow (List Int) (List Int)))) :=
  (shrM (i38:Int) (i46:Int)).bind fun z53=>(getI u18 (i46:Int)).bind fun e54=>some (.nxt (w64 (u49 - (w64 ((andI z53 1)*e54)))))
def m_rehearse_lacksOf_l4 (a0:(List TWindow)) (y4:(Int × Bool)) (u18:(List Int)) (i38:Nat) (x39:Int) (u41:(List Int)):Option (Flow (List Int) (Flow (List Int) (List Int))) :=
  (rangeM (m_rehearse_lacksOf_l5 u18 i38) 0 a0 y4.1).bind fun f52=>Flow.fin f52 fun u49=>(getI u41 (i38:Int)).bind fun e55=>(getI u41 (i38:Int)).bind fun e56=>some (.nxt (u41.set ((i38:Int).toNat) (w64 (e55+(max u49 0)))))
def m_rehearse_lacksOf_l2 (a3:(List (ByteArray × (List TWindow)))) (x6:TSings) (i14:Nat) (x15:TWindow) (u18:(List Int)):Option (Flow (List Int) (Flow (List Int) (List Int))) :=
  (m_rehearse_within ((lkM a3 x6.Singer).getD []) x15).bind fun y24=>(rangeM m_rehearse_lacksOf_l3 0 y24 (w64 (x15.To - x15.From))).bind fun f32=>Flow.fin f32 fun u29=>(appM 8 u18 [u29]).bind fun q35=>some (.nxt q35)
def m_rehearse_lacksOf_l1 (a0:(List TWindow)) (a1:ByteArray) (a3:(List (ByteArray × (List TWindow)))) (y4:(Int × Bool)) (i5:Nat) (x6:TSings) (u8:(List Int)):Option (Flow (List Int) (List Int)) :=
  ifB (!(x6.Piece.toList==a1.toList)) (some (.nxt u8)) ((rangeM (m_rehearse_lacksOf_l2 a3 x6) 0 a0 []).bind fun f21=>Flow.fin f21 fun u18=>(rangeM (m_rehearse_lacksOf_l4 a0 y4 u18) 0 u8 u8).bind fun f44=>Flow.fin f44 fun u41=>some (.nxt u41))
def m_rehearse_lacksOf (a0:(List TWindow)) (a1:ByteArray) (a2:(List TSings)) (a3:(List (ByteArray × (List TWindow)))) (a4:(List TWish)):Option (List Int) :=
  (shlM 1 (a0.length:Int)).bind fun z1=>(makeM 8 (0:Int) z1).bind fun q2=>(m_rehearse_needOf a4 a1).bind fun y4=>ifB (!y4.2) (some q2) ((rangeM (m_rehearse_lacksOf_l1 a0 a1 a3 y4) 0 a2 q2).bind fun f11=>Flow.fin f11 fun u8=>some u8)
def m_rehearse_planner_try_l1 (a0_1:(List (List Int))) (i1:Nat) (x2:Int) (u4:Int):Option (Flow Int ((List Int) × (Option (List Int)) × Int × (List Int))) :=
  (getI a0_1 (i1:Int)).bind fun e8=>(getI e8 x2).bind fun e9=>some (.nxt (w64 (u4+e9)))
def m_rehearse_planner_try_l2 (a0_0:(List TWindow)) (a0_1:(List (List Int))) (a0_2:(List Int)) (self_:((List TWindow)→(List (List Int))→(List Int)→(Option (List Int))→Int→(List Int)→Option ((List Int) × (Option (List Int)) × Int × (List Int)))) (i20:Nat) (x21:Int) (u23:(Int × (Option (List Int)) × (List Int) × (List Int))):Option (Flow (Int × (Option (List Int)) × (List Int) × (List Int)) ((List Int) × (Option (List Int)) × Int × (List Int))) :=
  (getI u23.2.2.1 (i20:Int)).bind fun e27=>(shlM 1 (a0_2.length:Int)).bind fun z28=>(getI u23.2.2.1 (i20:Int)).bind fun e29=>(appM 8 u23.2.2.2 [(i20:Int)]).bind fun q31=>(self_ a0_0 a0_1 q31 u23.2.1 u23.1 (u23.2.2.1.set ((i20:Int).toNat) (orI e27 z28))).bind fun y33=>(sliceI y33.1 0 (a0_2.length:Int)).bind fun q36=>(getI y33.2.2.2 (i20:Int)).bind fun e37=>(shlM 1 (a0_2.length:Int)).bind fun z38=>(getI y33.2.2.2 (i20:Int)).bind fun e39=>some (.nxt (y33.2.2.1,y33.2.1,(y33.2.2.2.set ((i20:Int).toNat) (andNotI e37 z38)),q36))
def m_rehearse_planner_try_b (self_:((List TWindow)→(List (List Int))→(List Int)→(Option (List Int))→Int→(List Int)→Option ((List Int) × (Option (List Int)) × Int × (List Int)))) (a0_0:(List TWindow)) (a0_1:(List (List Int))) (a0_2:(List Int)) (a0_3:(Option (List Int))) (a0_4:Int) (a1:(List Int)):Option ((List Int) × (Option (List Int)) × Int × (List Int)) :=
  ifB ((a0_2.length:Int)==(a0_0.length:Int)) ((rangeM (m_rehearse_planner_try_l1 a0_1) 0 a1 0).bind fun f7=>Flow.fin f7 fun u4=>(ifB a0_3.isNone (some (.inl true)) (some (.inl (decide (u4<a0_4)))):Option (Bool ⊕ ((List Int) × (Option (List Int)) × Int × (List Int)))).bind fun k12=>Sum.fin k12 fun u10=>(ifB u10 ((appM 8 ([]:List Int) a0_2).bind fun q18=>some (.inl (u4,some q18))) (some (.inl (a0_4,a0_3))):Option ((Int × (Option (List Int))) ⊕ ((List Int) × (Option (List Int)) × Int × (List Int)))).bind fun k16=>Sum.fin k16 fun u14=>some (a0_2,u14.2,u14.1,a1)) ((rangeM (m_rehearse_planner_try_l2 a0_0 a0_1 a0_2 self_) 0 a1 (a0_4,a0_3,a1,a0_2)).bind fun f26=>Flow.fin f26 fun u23=>some (u23.2.2.2,u23.2.1,u23.1,u23.2.2.1))
def m_rehearse_planner_try:Nat→(List TWindow)→(List (List Int))→(List Int)→(Option (List Int))→Int→(List Int)→Option ((List Int) × (Option (List Int)) × Int × (List Int))
  | 0=>fun _ _ _ _ _ _=>none
  | fu_+1=>m_rehearse_planner_try_b (m_rehearse_planner_try fu_)
def m_rehearse_Plan_l2 (a1:(List ByteArray)) (i44:Nat) (x45:Int) (u48:(List ByteArray)):Option (Flow (List ByteArray) ((List ByteArray) × Int × Int)) :=
  (getI a1 x45).bind fun e53=>(appM 16 u48 [e53]).bind fun q55=>some (.nxt q55)
def m_rehearse_Plan_l1 (a0:(List TWindow)) (a2:(List TSings)) (a4:(List TWish)) (y10:(List (ByteArray × (List TWindow)))) (i15:Nat) (x16:ByteArray) (u19:(List (List Int))):Option (Flow (List (List Int)) ((List ByteArray) × Int × Int)) :=
  (m_rehearse_lacksOf a0 x16 a2 y10 a4).bind fun y24=>(appM 24 u19 [y24]).bind fun q27=>some (.nxt q27)
def m_rehearse_Plan (a0:(List TWindow)) (a1:(List ByteArray)) (a2:(List TSings)) (a3:(List TAway)) (a4:(List TWish)):Option ((List ByteArray) × Int × Int) :=
  (m_rehearse_CheckSings a2).bind fun y1=>ifB (y1 != 0) (some ([],0,y1)) ((m_rehearse_CheckAway a3).bind fun y3=>ifB (y3 != 0) (some ([],0,y3)) ((m_rehearse_CheckWishes a4).bind fun y5=>ifB (y5 != 0) (some ([],0,y5)) ((m_rehearse_planFault a0 a1).bind fun y7=>ifB (y7 != 0) (some ([],0,y7)) ((m_rehearse_aways a3).bind fun y10=>(rangeM (m_rehearse_Plan_l1 a0 a2 a4 y10) 0 a1 []).bind fun f22=>Flow.fin f22 fun u19=>(makeM 8 (0:Int) (a1.length:Int)).bind fun q36=>(m_rehearse_planner_try FUEL a0 u19 [] (none:Option (List Int)) 0 q36).bind fun y40=>(rangeM (m_rehearse_Plan_l2 a1) 0 (y40.2.1.getD []) []).bind fun f51=>Flow.fin f51 fun u48=>some (u48,y40.2.2.1,0)))))
def m_slices_Equal_string_string_l1 (a1:(List ByteArray)) (i1:Nat) (x2:ByteArray) (u4:Unit):Option (Flow Unit Bool) :=
  (getI a1 (i1:Int)).bind fun e8=>ifB (!(x2.toList==e8.toList)) (some (.ret false)) (some (.nxt ()))
def m_slices_Equal_string_string (a0:(List ByteArray)) (a1:(List ByteArray)):Option Bool :=
  ifB ((a0.length:Int) != (a1.length:Int)) (some false) ((rangeM (m_slices_Equal_string_string_l1 a1) 0 a0 ()).bind fun f7=>Flow.fin f7 fun u4=>some true)
def m_gleeref2_SameSlot (a0:TSlot) (a1:TSlot):Option Bool :=
  ifB (a0.Key.toList==a1.Key.toList) (ifB (a0.Room.toList==a1.Room.toList) (ifB (a0.Piece.toList==a1.Piece.toList) (ifB (decide (a0.Time=a1.Time)) ((m_slices_Equal_string_string a0.Parts a1.Parts).bind fun y3=>some y3) (some false)) (some false)) (some false)) (some false)
def m_slices_EqualFunc_api_Slot_api_Slot_api_Slot_api_Slot__gleeref2_SameSlot_l1 (a1:(List TSlot)) (i1:Nat) (x2:TSlot) (u4:Unit):Option (Flow Unit Bool) :=
  (getI a1 (i1:Int)).bind fun e9=>(m_gleeref2_SameSlot x2 e9).bind fun y11=>ifB (!y11) (some (.ret false)) (some (.nxt ()))
def m_slices_EqualFunc_api_Slot_api_Slot_api_Slot_api_Slot__gleeref2_SameSlot (a0:(List TSlot)) (a1:(List TSlot)):Option Bool :=
  ifB ((a0.length:Int) != (a1.length:Int)) (some false) ((rangeM (m_slices_EqualFunc_api_Slot_api_Slot_api_Slot_api_Slot__gleeref2_SameSlot_l1 a1) 0 a0 ()).bind fun f7=>Flow.fin f7 fun u4=>some true)
def m_slices_Equal_api_Sings_api_Sings_l1 (a1:(List TSings)) (i1:Nat) (x2:TSings) (u4:Unit):Option (Flow Unit Bool) :=
  (getI a1 (i1:Int)).bind fun e8=>ifB (!(decide (x2=e8))) (some (.ret false)) (some (.nxt ()))
def m_slices_Equal_api_Sings_api_Sings (a0:(List TSings)) (a1:(List TSings)):Option Bool :=
  ifB ((a0.length:Int) != (a1.length:Int)) (some false) ((rangeM (m_slices_Equal_api_Sings_api_Sings_l1 a1) 0 a0 ()).bind fun f7=>Flow.fin f7 fun u4=>some true)
def m_slices_Equal_api_Came_api_Came_l1 (a1:(List TCame)) (i1:Nat) (x2:TCame) (u4:Unit):Option (Flow Unit Bool) :=
  (getI a1 (i1:Int)).bind fun e8=>ifB (!(decide (x2=e8))) (some (.ret false)) (some (.nxt ()))
def m_slices_Equal_api_Came_api_Came (a0:(List TCame)) (a1:(List TCame)):Option Bool :=
  ifB ((a0.length:Int) != (a1.length:Int)) (some false) ((rangeM (m_slices_Equal_api_Came_api_Came_l1 a1) 0 a0 ()).bind fun f7=>Flow.fin f7 fun u4=>some true)
def m_slices_Equal_api_Wish_api_Wish_l1 (a1:(List TWish)) (i1:Nat) (x2:TWish) (u4:Unit):Option (Flow Unit Bool) :=
  (getI a1 (i1:Int)).bind fun e8=>ifB (!(decide (x2=e8))) (some (.ret false)) (some (.nxt ()))
def m_slices_Equal_api_Wish_api_Wish (a0:(List TWish)) (a1:(List TWish)):Option Bool :=
  ifB ((a0.length:Int) != (a1.length:Int)) (some false) ((rangeM (m_slices_Equal_api_Wish_api_Wish_l1 a1) 0 a0 ()).bind fun f7=>Flow.fin f7 fun u4=>some true)
def m_slices_Index_int_int_l1 (a1:Int) (i1:Nat) (x2:Int) (u4:Unit):Option (Flow Unit Int) :=
  ifB (a1==x2) (some (.ret (i1:Int))) (some (.nxt ()))
def m_slices_Index_int_int (a0:(List Int)) (a1:Int):Option Int :=
  (rangeM (m_slices_Index_int_int_l1 a1) 0 a0 ()).bind fun f7=>Flow.fin f7 fun u4=>some (-1)
def m_slices_Contains_int_int (a0:(List Int)) (a1:Int):Option Bool :=
  (m_slices_Index_int_int a0 a1).bind fun y1=>some (decide (y1≥0))
def m_piece_isUnit (a0:Int):Option Bool :=
  (m_slices_Contains_int_int [1,2,4,8,16] a0).bind fun y2=>some y2
def m_piece_barFault (a0:TBar):Option Int :=
  ((m_kit_Outside a0.Beats 1 16).bind fun y5=>ifB y5 (some (.inl true)) ((m_piece_isUnit a0.Unit).bind fun y6=>ifB (!y6) (some (.inl true)) (ifB (a0.Close != 0) ((m_kit_Outside a0.Close 2 9).bind fun y7=>ifB y7 (some (.inl true)) ((m_kit_Outside a0.Ending 0 9).bind fun y8=>some (.inl y8))) ((m_kit_Outside a0.Ending 0 9).bind fun y9=>some (.inl y9)))):Option (Bool ⊕ Int)).bind fun k4=>Sum.fin k4 fun u2=>ifB u2 (some 1) (some 0)
def m_piece_rulesFault_l1 (a0:(List TBar)) (i1:Nat) (x2:TBar) (u4:Bool):Option (Flow Bool Int) :=
  (m_piece_barFault x2).bind fun y9=>ifB (y9 != 0) (some (.ret y9)) ((ifB x2.Open (some (.inl u4)) (some (.inl false)):Option (Bool ⊕ (Flow Bool Int))).bind fun k12=>Sum.fin k12 fun u10=>ifB u10 (some (.ret 16)) ((ifB (!x2.Open) (ifB (!u4) (ifB (x2.Close != 0) (some (.inl true)) (some (.inl (x2.Ending != 0)))) (some (.inl false))) (some (.inl false)):Option (Bool ⊕ (Flow Bool Int))).bind fun k15=>Sum.fin k15 fun u13=>ifB u13 (some (.ret 16)) (ifB u4 ((getI a0 (w64 ((i1:Int) - 1))).bind fun e16=>ifB (decide (x2.Ending<e16.Ending)) (some (.ret 16)) (ifB u4 (some (.nxt (x2.Close==0))) (ifB x2.Open (some (.nxt (x2.Close==0))) (some (.nxt false))))) (ifB u4 (some (.nxt (x2.Close==0))) (ifB x2.Open (some (.nxt (x2.Close==0))) (some (.nxt false)))))))
def m_piece_rulesFault (a0:(List TBar)):Option Int :=
  (rangeM (m_piece_rulesFault_l1 a0) 0 a0 false).bind fun f7=>Flow.fin f7 fun u4=>some 0
def m_piece_repeats_l3 (x22:Tpiece_repeat) (i30:Nat) (x31:TBar) (u33:Unit):Option (Flow Unit (Flow Unit ((List Tpiece_repeat) × Bool))) :=
  (ifB (decide (x22.times>1)) (some (.inl (decide (x31.Ending>x22.times)))) (some (.inl false)):Option (Bool ⊕ (Flow Unit (Flow Unit ((List Tpiece_repeat) × Bool))))).bind fun k40=>Sum.fin k40 fun u38=>ifB u38 (some (.ret (.ret ([],false)))) (some (.nxt ()))
def m_piece_repeats_l2 (a0:(List TBar)) (i21:Nat) (x22:Tpiece_repeat) (u24:Unit):Option (Flow Unit ((List Tpiece_repeat) × Bool)) :=
  (sliceI a0 x22.from_ x22.to_).bind fun q29=>(rangeM (m_piece_repeats_l3 x22) 0 q29 ()).bind fun f36=>Flow.fin f36 fun u33=>some (.nxt ())
def m_piece_repeats_l1  (i1:Nat) (x2:TBar) (u5:(Int × (List Tpiece_repeat))):Option (Flow (Int × (List Tpiece_repeat)) ((List Tpiece_repeat) × Bool)) :=
  (ifB x2.Open (some (.inl (i1:Int))) (some (.inl u5.1)):Option (Int ⊕ (Flow (Int × (List Tpiece_repeat)) ((List Tpiece_repeat) × Bool)))).bind fun k13=>Sum.fin k13 fun u11=>ifB (decide (u11<0)) ((appM 24 u5.2 [(Tpiece_repeat.mk (i1:Int) (w64 ((i1:Int)+1)) 1)]).bind fun q15=>some (.nxt (u11,q15))) (ifB (decide (x2.Close>0)) ((appM 24 u5.2 [(Tpiece_repeat.mk u11 (w64 ((i1:Int)+1)) x2.Close)]).bind fun q18=>some (.nxt ((-1),q18))) (some (.nxt (u11,u5.2))))
def m_piece_repeats (a0:(List TBar)):Option ((List Tpiece_repeat) × Bool) :=
  (rangeM m_piece_repeats_l1 0 a0 ((-1),[])).bind fun f8=>Flow.fin f8 fun u5=>(rangeM (m_piece_repeats_l2 a0) 0 u5.2 ()).bind fun f27=>Flow.fin f27 fun u24=>some (u5.2,decide (u5.1<0))
def m_piece_order_l3 (a0:(List TBar)) (a2:Int) (x2:Tpiece_repeat) (u11:(Int × (List Int))) (u16:(Int × (List Int))):Option (Flow (Int × (List Int)) (Flow (Int × (List Int)) (Flow (List Int) (List Int)))) :=
  (ifB (decide (u16.1<x2.to_)) (some (.inl (decide ((u16.2.length:Int)≤a2)))) (some (.inl false)):Option (Bool ⊕ (Flow (Int × (List Int)) (Flow (Int × (List Int)) (Flow (List Int) (List Int)))))).bind fun k23=>Sum.fin k23 fun u21=>ifB u21 (((getI a0 u16.1).bind fun e27=>ifB (e27.Ending==0) (some (.inl true)) ((getI a0 u16.1).bind fun e28=>some (.inl (e28.Ending==u11.1))):Option (Bool ⊕ (Flow (Int × (List Int)) (Flow (Int × (List Int)) (Flow (List Int) (List Int)))))).bind fun k26=>Sum.fin k26 fun u24=>ifB u24 ((appM 8 u16.2 [u16.1]).bind fun q30=>some (.nxt (w64 (u16.1+1),q30))) (some (.nxt (w64 (u16.1+1),u16.2)))) (some (.brk (u16.1,u16.2)))
def m_piece_order_l2 (a0:(List TBar)) (a2:Int) (x2:Tpiece_repeat) (u11:(Int × (List Int))):Option (Flow (Int × (List Int)) (Flow (List Int) (List Int))) :=
  ifB (decide (u11.1≤x2.times)) ((loopM (m_piece_order_l3 a0 a2 x2 u11) (x2.from_,u11.2)).bind fun f19=>Flow.fin f19 fun u16=>some (.nxt (w64 (u11.1+1),u16.2))) (some (.brk (u11.1,u11.2)))
def m_piece_order_l1 (a0:(List TBar)) (a2:Int) (i1:Nat) (x2:Tpiece_repeat) (u5:(List Int)):Option (Flow (List Int) (List Int)) :=
  (loopM (m_piece_order_l2 a0 a2 x2) (1,u5)).bind fun f14=>Flow.fin f14 fun u11=>some (.nxt u11.2)
def m_piece_order (a0:(List TBar)) (a1:(List Tpiece_repeat)) (a2:Int):Option (List Int) :=
  (rangeM (m_piece_order_l1 a0 a2) 0 a1 []).bind fun f8=>Flow.fin f8 fun u5=>some u5
def m_piece_CheckBars (a0:(List TBar)):Option Int :=
  ifB ((a0.length:Int)==0) (some 8) (ifB (decide ((a0.length:Int)>300)) (some 2) ((m_piece_rulesFault a0).bind fun y1=>ifB (y1 != 0) (some y1) ((m_piece_repeats a0).bind fun y2=>ifB (!y2.2) (some 16) ((m_piece_order a0 y2.1 2000).bind fun y4=>ifB (decide ((y4.length:Int)>2000)) (some 2) (some 0)))))
def m_piece_played (a0:(List TBar)):Option (List Int) :=
  (m_piece_repeats a0).bind fun y1=>(m_piece_order a0 y1.1 2000).bind fun y3=>some y3
def m_piece_Order (a0:(List TBar)):Option ((List Int) × Int) :=
  (m_piece_CheckBars a0).bind fun y1=>ifB (y1 != 0) (some ([],y1)) ((m_piece_played a0).bind fun y3=>some (y3,0))
def m_chord_isKind (a0:Int):Option Bool :=
  (m_kit_Outside a0 1 7).bind fun y1=>some (!y1)
def m_chord_above (a0:Int):Option (List Int) :=
  (getI [[],[0,4,7],[0,3,7],[0,3,6],[0,4,8],[0,4,7,10],[0,4,7,11],[0,3,7,10]] a0).bind fun e12=>some e12
def m_chord_CheckChord (a0:TChord):Option Int :=
  (m_kit_Outside a0.Root 0 11).bind fun y2=>ifB y2 (some 1) ((m_chord_isKind a0.Kind).bind fun y3=>ifB (!y3) (some 4) ((m_chord_above a0.Kind).bind fun y4=>(m_kit_Outside a0.Turn 0 (w64 ((y4.length:Int) - 1))).bind fun y6=>ifB y6 (some 1) (some 0)))
def m_chord_rootWords  : Option (List ByteArray) :=
  some [(ByteArray.mk [99].toArray),(ByteArray.mk [99,35].toArray),(ByteArray.mk [100].toArray),(ByteArray.mk [100,35].toArray),(ByteArray.mk [101].toArray),(ByteArray.mk [102].toArray),(ByteArray.mk [102,35].toArray),(ByteArray.mk [103].toArray),(ByteArray.mk [103,35].toArray),(ByteArray.mk [97].toArray),(ByteArray.mk [97,35].toArray),(ByteArray.mk [98].toArray)]
def m_chord_kindWords  : Option (List ByteArray) :=
  some [ByteArray.empty,(ByteArray.mk [109,97,106].toArray),(ByteArray.mk [109,105,110].toArray),(ByteArray.mk [100,105,109].toArray),(ByteArray.mk [97,117,103].toArray),(ByteArray.mk [55].toArray),(ByteArray.mk [109,97,106,55].toArray),(ByteArray.mk [109,105,110,55].toArray)]
def m_chord_Name (a0:TChord):Option (ByteArray × Int) :=
  (m_chord_CheckChord a0).bind fun y2=>ifB (y2 != 0) (some (ByteArray.empty,y2)) ((m_chord_rootWords.bind fun y6=>(getI y6 a0.Root).bind fun e8=>(catM e8 (ByteArray.mk [32].toArray)).bind fun c9=>m_chord_kindWords.bind fun y10=>(getI y10 a0.Kind).bind fun e12=>(catM c9 e12).bind fun c13=>some (.inl c13):Option (ByteArray ⊕ (ByteArray × Int))).bind fun k5=>Sum.fin k5 fun u3=>ifB (decide (a0.Turn>0)) ((m_strconv_Itoa a0.Turn).bind fun y18=>(catM (ByteArray.mk [47].toArray) y18).bind fun c19=>(catM u3 c19).bind fun c20=>some (c20,0)) (some (u3,0)))
def m_kit_Has (a0:TWindow) (a1:Int):Option Bool :=
  ifB (decide (a0.From≤a1)) (some (decide (a1<a0.To))) (some false)
def m_rehearse_There_1 (a0:TWindow) (a1_0:Int):Option Bool :=
  (m_kit_Has a0 a1_0).bind fun y2=>some y2
def m_slices_IndexFunc_api_Window_api_Window__rehearse_There_1_l1 (a1_c0_0:Int) (i1:Nat) (x2:TWindow) (u4:Unit):Option (Flow Unit Int) :=
  (m_rehearse_There_1 x2 a1_c0_0).bind fun y8=>ifB y8 (some (.ret (i1:Int))) (some (.nxt ()))
def m_slices_IndexFunc_api_Window_api_Window__rehearse_There_1 (a0:(List TWindow)) (a1_c0_0:Int):Option Int :=
  (rangeM (m_slices_IndexFunc_api_Window_api_Window__rehearse_There_1_l1 a1_c0_0) 0 a0 ()).bind fun f7=>Flow.fin f7 fun u4=>some (-1)
def m_slices_ContainsFunc_api_Window_api_Window__rehearse_There_1 (a0:(List TWindow)) (a1_c0_0:Int):Option Bool :=
  (m_slices_IndexFunc_api_Window_api_Window__rehearse_There_1 a0 a1_c0_0).bind fun y1=>some (decide (y1≥0))
noncomputable def m_slices_Sorted_string__maps_Keys_map_string_bool_string_bool_1 (a0_c0_0:(List (ByteArray × Bool))):Option (List ByteArray) :=
  if a0_c0_0.length≤1000000000 then m_slices_Sort_string_string (a0_c0_0.map Prod.fst) else none
def m_rehearse_There_l1 (a1:Int) (q12:(List (ByteArray × (List TWindow)))) (i16:Nat) (x17:ByteArray) (u23:(List (ByteArray × Bool))):Option (Flow (List (ByteArray × Bool)) ((List ByteArray) × Int)) :=
  (m_slices_ContainsFunc_api_Window_api_Window__rehearse_There_1 ((lkM q12 x17).getD []) a1).bind fun y28=>ifB y28 (some (.nxt (putM u23 x17 true))) (some (.nxt u23))
def m_rehearse_There (a0:(List TCame)) (a1:Int):Option ((List ByteArray) × Int) :=
  (m_rehearse_CheckCame a0).bind fun y2=>ifB (y2 != 0) (some ([],y2)) ((m_kit_IsMoment a1).bind fun y4=>ifB (!y4) (some ([],1)) ((m_rehearse_presences a0).bind fun y7=>anyOrd y7 fun q12=>anyOrd (q12.map Prod.fst) fun L26=>(rangeM (m_rehearse_There_l1 a1 q12) 0 L26 []).bind fun f34=>Flow.fin f34 fun u23=>(m_slices_Sorted_string__maps_Keys_map_string_bool_string_bool_1 u23).bind fun y32=>some (y32,0)))
def m_concert_CheckItems_1 (a0:TItem) (a1_0:ByteArray) (a1_1:ByteArray) (a1_2:Int) (a1_3:(List ByteArray)):Option Bool :=
  some (a0.Key.toList==a1_0.toList)
def m_slices_IndexFunc_api_Item_api_Item__concert_CheckItems_1_l1 (a1_c0_0:ByteArray) (a1_c0_1:ByteArray) (a1_c0_2:Int) (a1_c0_3:(List ByteArray)) (i1:Nat) (x2:TItem) (u4:Unit):Option (Flow Unit Int) :=
  (m_concert_CheckItems_1 x2 a1_c0_0 a1_c0_1 a1_c0_2 a1_c0_3).bind fun y8=>ifB y8 (some (.ret (i1:Int))) (some (.nxt ()))
def m_slices_IndexFunc_api_Item_api_Item__concert_CheckItems_1 (a0:(List TItem)) (a1_c0_0:ByteArray) (a1_c0_1:ByteArray) (a1_c0_2:Int) (a1_c0_3:(List ByteArray)):Option Int :=
  (rangeM (m_slices_IndexFunc_api_Item_api_Item__concert_CheckItems_1_l1 a1_c0_0 a1_c0_1 a1_c0_2 a1_c0_3) 0 a0 ()).bind fun f7=>Flow.fin f7 fun u4=>some (-1)
def m_slices_ContainsFunc_api_Item_api_Item__concert_CheckItems_1 (a0:(List TItem)) (a1_c0_0:ByteArray) (a1_c0_1:ByteArray) (a1_c0_2:Int) (a1_c0_3:(List ByteArray)):Option Bool :=
  (m_slices_IndexFunc_api_Item_api_Item__concert_CheckItems_1 a0 a1_c0_0 a1_c0_1 a1_c0_2 a1_c0_3).bind fun y1=>some (decide (y1≥0))
def m_concert_partsFault_l1 (a0:(List ByteArray)) (i1:Nat) (x2:ByteArray) (u4:Unit):Option (Flow Unit Int) :=
  (m_kit_IsKey x2).bind fun y8=>ifB (!y8) (some (.ret 5)) ((ifB (decide ((i1:Int)>0)) ((getI a0 (w64 ((i1:Int) - 1))).bind fun e12=>some (.inl (Op.bytesLess x2.toList e12.toList||x2.toList==e12.toList))) (some (.inl false)):Option (Bool ⊕ (Flow Unit Int))).bind fun k11=>Sum.fin k11 fun u9=>ifB u9 (some (.ret 7)) (some (.nxt ())))
def m_concert_partsFault (a0:(List ByteArray)):Option Int :=
  ifB ((a0.length:Int)==0) (some 8) (ifB (decide ((a0.length:Int)>12)) (some 2) ((rangeM (m_concert_partsFault_l1 a0) 0 a0 ()).bind fun f7=>Flow.fin f7 fun u4=>some 0))
def m_concert_CheckItems_l1 (a0:(List TItem)) (i1:Nat) (x2:TItem) (u4:Unit):Option (Flow Unit Int) :=
  ((m_kit_IsKey x2.Key).bind fun y12=>ifB (!y12) (some (.inl true)) ((m_kit_IsKey x2.Places).bind fun y13=>some (.inl (!y13))):Option (Bool ⊕ (Flow Unit Int))).bind fun k11=>Sum.fin k11 fun u9=>ifB u9 (some (.ret 5)) ((sliceI a0 0 (i1:Int)).bind fun q14=>(m_slices_ContainsFunc_api_Item_api_Item__concert_CheckItems_1 q14 x2.Key x2.Places x2.Long x2.Parts).bind fun y15=>ifB y15 (some (.ret 6)) ((m_kit_Outside x2.Long 1 86400000).bind fun y16=>ifB y16 (some (.ret 1)) ((m_concert_partsFault x2.Parts).bind fun y17=>ifB (y17 != 0) (some (.ret y17)) (some (.nxt ())))))
def m_concert_CheckItems (a0:(List TItem)):Option Int :=
  ifB (decide ((a0.length:Int)>60)) (some 2) ((rangeM (m_concert_CheckItems_l1 a0) 0 a0 ()).bind fun f7=>Flow.fin f7 fun u4=>some 0)
def m_concert_CheckProgram (a0:TProgram):Option Int :=
  (m_concert_CheckItems a0.Items).bind fun y2=>ifB (y2 != 0) (some y2) (((m_kit_Outside a0.Change 0 86400000).bind fun y6=>ifB y6 (some (.inl true)) ((m_kit_Outside a0.Clap 0 86400000).bind fun y7=>ifB y7 (some (.inl true)) ((m_kit_Outside a0.Break 0 86400000).bind fun y8=>ifB y8 (some (.inl true)) ((m_kit_Outside a0.Half (-1) (max (-1) (w64 ((a0.Items.length:Int) - 2)))).bind fun y9=>some (.inl y9)))):Option (Bool ⊕ Int)).bind fun k5=>Sum.fin k5 fun u3=>ifB u3 (some 1) (some 0))
def m_concert_change (a0:TProgram) (a1:TItem) (a2:TItem):Option Int :=
  ifB (!(a1.Places.toList==a2.Places.toList)) (some a0.Change) (some a0.Clap)
def m_concert_behind (a0:TProgram) (a1:Int):Option Int :=
  ifB (a1==a0.Half) (some a0.Break) ((getI a0.Items a1).bind fun e2=>(getI a0.Items (w64 (a1+1))).bind fun e3=>(m_concert_change a0 e2 e3).bind fun y4=>some y4)
def m_concert_begins_l1 (a0:TProgram) (i2:Nat) (x3:TItem) (u6:(Int × (List Int))):Option (Flow (Int × (List Int)) ((List Int) × Int)) :=
  (appM 8 u6.2 [u6.1]).bind fun q13=>ifB (decide ((w64 ((i2:Int)+1))<(a0.Items.length:Int))) ((m_concert_behind a0 (i2:Int)).bind fun y15=>some (.nxt (w64 ((w64 (u6.1+x3.Long))+y15),q13))) (some (.nxt (w64 (u6.1+x3.Long),q13)))
def m_concert_begins (a0:TProgram):Option ((List Int) × Int) :=
  (rangeM (m_concert_begins_l1 a0) 0 a0.Items (0,[])).bind fun f9=>Flow.fin f9 fun u6=>some (u6.2,u6.1)
def m_concert_Long (a0:TProgram):Option (Int × Int) :=
  (m_concert_CheckProgram a0).bind fun y2=>ifB (y2 != 0) (some (0,y2)) ((m_concert_begins a0).bind fun y3=>some (y3.2,0))
def m_club_usesOf (a0:Int):Option Tclub_uses :=
  ifB (a0==1) (ifB (a0==4) (ifB (a0==1) (some (Tclub_uses.mk true true true (a0==5) (a0==7))) (some (Tclub_uses.mk true true (a0==3) (a0==5) (a0==7)))) (ifB (a0==5) (ifB (a0==1) (some (Tclub_uses.mk true true true (a0==5) (a0==7))) (some (Tclub_uses.mk true true (a0==3) (a0==5) (a0==7)))) (ifB (a0==1) (some (Tclub_uses.mk true (a0==6) true (a0==5) (a0==7))) (some (Tclub_uses.mk true (a0==6) (a0==3) (a0==5) (a0==7)))))) (ifB (a0==2) (ifB (a0==4) (ifB (a0==1) (some (Tclub_uses.mk true true true (a0==5) (a0==7))) (some (Tclub_uses.mk true true (a0==3) (a0==5) (a0==7)))) (ifB (a0==5) (ifB (a0==1) (some (Tclub_uses.mk true true true (a0==5) (a0==7))) (some (Tclub_uses.mk true true (a0==3) (a0==5) (a0==7)))) (ifB (a0==1) (some (Tclub_uses.mk true (a0==6) true (a0==5) (a0==7))) (some (Tclub_uses.mk true (a0==6) (a0==3) (a0==5) (a0==7)))))) (ifB (a0==3) (ifB (a0==4) (ifB (a0==1) (some (Tclub_uses.mk true true true (a0==5) (a0==7))) (some (Tclub_uses.mk true true (a0==3) (a0==5) (a0==7)))) (ifB (a0==5) (ifB (a0==1) (some (Tclub_uses.mk true true true (a0==5) (a0==7))) (some (Tclub_uses.mk true true (a0==3) (a0==5) (a0==7)))) (ifB (a0==1) (some (Tclub_uses.mk true (a0==6) true (a0==5) (a0==7))) (some (Tclub_uses.mk true (a0==6) (a0==3) (a0==5) (a0==7)))))) (ifB (a0==4) (ifB (a0==1) (some (Tclub_uses.mk (a0==5) true true (a0==5) (a0==7))) (some (Tclub_uses.mk (a0==5) true (a0==3) (a0==5) (a0==7)))) (ifB (a0==5) (ifB (a0==1) (some (Tclub_uses.mk (a0==5) true true (a0==5) (a0==7))) (some (Tclub_uses.mk (a0==5) true (a0==3) (a0==5) (a0==7)))) (ifB (a0==1) (some (Tclub_uses.mk (a0==5) (a0==6) true (a0==5) (a0==7))) (some (Tclub_uses.mk (a0==5) (a0==6) (a0==3) (a0==5) (a0==7))))))))
def m_club_formed (a0:TAct):Option Int :=
  (m_kit_IsKey a0.Site).bind fun y2=>ifB (!y2) (some 5) (((m_kit_Outside a0.No 1 1000000).bind fun y6=>ifB y6 (some (.inl true)) ((m_kit_IsMoment a0.At).bind fun y7=>some (.inl (!y7))):Option (Bool ⊕ Int)).bind fun k5=>Sum.fin k5 fun u3=>ifB u3 (some 1) ((m_kit_Outside a0.Kind 1 7).bind fun y8=>ifB y8 (some 4) ((m_club_usesOf a0.Kind).bind fun y9=>(ifB (a0.Kind==3) (some (.inl 1)) (some (.inl 0)):Option (Int ⊕ Int)).bind fun k13=>Sum.fin k13 fun u11=>(ifB y9.who ((m_kit_IsKey a0.Who).bind fun y17=>ifB (!y17) (some (.inl true)) (ifB y9.motion ((m_kit_IsKey a0.Motion).bind fun y18=>ifB (!y18) (some (.inl true)) (ifB y9.undo ((m_kit_IsKey a0.Of).bind fun y19=>some (.inl (!y19))) (some (.inl false)))) (ifB y9.undo ((m_kit_IsKey a0.Of).bind fun y20=>some (.inl (!y20))) (some (.inl false))))) (ifB y9.motion ((m_kit_IsKey a0.Motion).bind fun y21=>ifB (!y21) (some (.inl true)) (ifB y9.undo ((m_kit_IsKey a0.Of).bind fun y22=>some (.inl (!y22))) (some (.inl false)))) (ifB y9.undo ((m_kit_IsKey a0.Of).bind fun y23=>some (.inl (!y23))) (some (.inl false)))):Option (Bool ⊕ Int)).bind fun k16=>Sum.fin k16 fun u14=>ifB u14 (some 5) ((ifB y9.cents ((m_kit_Outside a0.Cents u11 1000000000).bind fun y27=>ifB y27 (some (.inl true)) (ifB y9.undo ((m_kit_Outside a0.Other 1 1000000).bind fun y28=>some (.inl y28)) (some (.inl false)))) (ifB y9.undo ((m_kit_Outside a0.Other 1 1000000).bind fun y29=>some (.inl y29)) (some (.inl false))):Option (Bool ⊕ Int)).bind fun k26=>Sum.fin k26 fun u24=>ifB u24 (some 1) ((ifB (!y9.who) (ifB (!(a0.Who.toList==ByteArray.empty.toList)) (some (.inl true)) (ifB (!y9.motion) (ifB (!(a0.Motion.toList==ByteArray.empty.toList)) (some (.inl true)) (ifB (!y9.cents) (ifB (a0.Cents != 0) (some (.inl true)) (ifB (!y9.yes) (ifB a0.Yes (some (.inl true)) (ifB (!y9.undo) (ifB (!(a0.Of.toList==ByteArray.empty.toList)) (some (.inl true)) (some (.inl (a0.Other != 0)))) (some (.inl false)))) (ifB (!y9.undo) (ifB (!(a0.Of.toList==ByteArray.empty.toList)) (some (.inl true)) (some (.inl (a0.Other != 0)))) (some (.inl false))))) (ifB (!y9.yes) (ifB a0.Yes (some (.inl true)) (ifB (!y9.undo) (ifB (!(a0.Of.toList==ByteArray.empty.toList)) (some (.inl true)) (some (.inl (a0.Other != 0)))) (some (.inl false)))) (ifB (!y9.undo) (ifB (!(a0.Of.toList==ByteArray.empty.toList)) (some (.inl true)) (some (.inl (a0.Other != 0)))) (some (.inl false)))))) (ifB (!y9.cents) (ifB (a0.Cents != 0) (some (.inl true)) (ifB (!y9.yes) (ifB a0.Yes (some (.inl true)) (ifB (!y9.undo) (ifB (!(a0.Of.toList==ByteArray.empty.toList)) (some (.inl true)) (some (.inl (a0.Other != 0)))) (some (.inl false)))) (ifB (!y9.undo) (ifB (!(a0.Of.toList==ByteArray.empty.toList)) (some (.inl true)) (some (.inl (a0.Other != 0)))) (some (.inl false))))) (ifB (!y9.yes) (ifB a0.Yes (some (.inl true)) (ifB (!y9.undo) (ifB (!(a0.Of.toList==ByteArray.empty.toList)) (some (.inl true)) (some (.inl (a0.Other != 0)))) (some (.inl false)))) (ifB (!y9.undo) (ifB (!(a0.Of.toList==ByteArray.empty.toList)) (some (.inl true)) (some (.inl (a0.Other != 0)))) (some (.inl false))))))) (ifB (!y9.motion) (ifB (!(a0.Motion.toList==ByteArray.empty.toList)) (some (.inl true)) (ifB (!y9.cents) (ifB (a0.Cents != 0) (some (.inl true)) (ifB (!y9.yes) (ifB a0.Yes (some (.inl true)) (ifB (!y9.undo) (ifB (!(a0.Of.toList==ByteArray.empty.toList)) (some (.inl true)) (some (.inl (a0.Other != 0)))) (some (.inl false)))) (ifB (!y9.undo) (ifB (!(a0.Of.toList==ByteArray.empty.toList)) (some (.inl true)) (some (.inl (a0.Other != 0)))) (some (.inl false))))) (ifB (!y9.yes) (ifB a0.Yes (some (.inl true)) (ifB (!y9.undo) (ifB (!(a0.Of.toList==ByteArray.empty.toList)) (some (.inl true)) (some (.inl (a0.Other != 0)))) (some (.inl false)))) (ifB (!y9.undo) (ifB (!(a0.Of.toList==ByteArray.empty.toList)) (some (.inl true)) (some (.inl (a0.Other != 0)))) (some (.inl false)))))) (ifB (!y9.cents) (ifB (a0.Cents != 0) (some (.inl true)) (ifB (!y9.yes) (ifB a0.Yes (some (.inl true)) (ifB (!y9.undo) (ifB (!(a0.Of.toList==ByteArray.empty.toList)) (some (.inl true)) (some (.inl (a0.Other != 0)))) (some (.inl false)))) (ifB (!y9.undo) (ifB (!(a0.Of.toList==ByteArray.empty.toList)) (some (.inl true)) (some (.inl (a0.Other != 0)))) (some (.inl false))))) (ifB (!y9.yes) (ifB a0.Yes (some (.inl true)) (ifB (!y9.undo) (ifB (!(a0.Of.toList==ByteArray.empty.toList)) (some (.inl true)) (some (.inl (a0.Other != 0)))) (some (.inl false)))) (ifB (!y9.undo) (ifB (!(a0.Of.toList==ByteArray.empty.toList)) (some (.inl true)) (some (.inl (a0.Other != 0)))) (some (.inl false)))))):Option (Bool ⊕ Int)).bind fun k32=>Sum.fin k32 fun u30=>ifB u30 (some 3) (some 0))))))
def m_club_compare (a0:TAct) (a1:TAct):Option Int :=
  (m_cmp_Compare_int a0.At a1.At).bind fun y3=>(m_strings_Compare a0.Site a1.Site).bind fun y4=>(m_cmp_Compare_int a0.No a1.No).bind fun y5=>(m_cmp_Or_int [y3,y4,y5]).bind fun y7=>some y7
def m_club_CheckActs_l2  (i13:Nat) (x14:TAct) (u16:(List (Tclub_own × Bool))):Option (Flow (List (Tclub_own × Bool)) Int) :=
  ifB ((lkM u16 (Tclub_own.mk x14.Site x14.No)).getD false) (some (.ret 6)) (some (.nxt (putM u16 (Tclub_own.mk x14.Site x14.No) true)))
def m_club_CheckActs_l1 (a0:(List TAct)) (i1:Nat) (x2:TAct) (u4:Unit):Option (Flow Unit Int) :=
  (m_club_formed x2).bind fun y9=>ifB (y9 != 0) (some (.ret y9)) (ifB (decide ((i1:Int)>0)) ((getI a0 (w64 ((i1:Int) - 1))).bind fun e10=>(m_club_compare e10 x2).bind fun y11=>ifB (decide (y11≥0)) (some (.ret 7)) (some (.nxt ()))) (some (.nxt ())))
def m_club_CheckActs (a0:(List TAct)):Option Int :=
  ifB (decide ((a0.length:Int)>2000)) (some 2) ((rangeM (m_club_CheckActs_l1 a0) 0 a0 ()).bind fun f7=>Flow.fin f7 fun u4=>(rangeM m_club_CheckActs_l2 0 a0 []).bind fun f19=>Flow.fin f19 fun u16=>some 0)
def m_club_askedFault (a0:(List TAct)) (a1:Int):Option Int :=
  (m_club_CheckActs a0).bind fun y1=>ifB (y1 != 0) (some y1) ((m_kit_IsMoment a1).bind fun y2=>ifB (!y2) (some 1) (some 0))
def m_slices_Reverse_int_int_l1  (u1:(Int × Int × (List Int))):Option (Flow (Int × Int × (List Int)) (List Int)) :=
  ifB (decide (u1.1<u1.2.1)) ((getI u1.2.2 u1.2.1).bind fun e5=>(getI u1.2.2 u1.1).bind fun e6=>(getI u1.2.2 u1.1).bind fun e7=>(getI (u1.2.2.set u1.1.toNat e5) u1.2.1).bind fun e8=>some (.nxt (w64 (u1.1+1),w64 (u1.2.1 - 1),((u1.2.2.set u1.1.toNat e5).set u1.2.1.toNat e6)))) (some (.brk (u1.1,u1.2.1,u1.2.2)))
def m_slices_Reverse_int_int (a0:(List Int)):Option (List Int) :=
  (loopM m_slices_Reverse_int_int_l1 (0,w64 ((a0.length:Int) - 1),a0)).bind fun f4=>Flow.fin f4 fun u1=>some u1.2.2
def m_club_counting_l1 (a1:Int) (i6:Nat) (x7:TAct) (u13:((List (Tclub_own × Bool)) × (List Int))):Option (Flow ((List (Tclub_own × Bool)) × (List Int)) (List Int)) :=
  (ifB (decide (x7.At>a1)) (some (.inl true)) (some (.inl ((lkM u13.1 (Tclub_own.mk x7.Site x7.No)).getD false))):Option (Bool ⊕ (Flow ((List (Tclub_own × Bool)) × (List Int)) (List Int)))).bind fun k21=>Sum.fin k21 fun u19=>ifB u19 (some (.nxt (u13.1,u13.2))) ((appM 8 u13.2 [(i6:Int)]).bind fun q23=>ifB (x7.Kind==7) (some (.nxt (putM u13.1 (Tclub_own.mk x7.Of x7.Other) true,q23))) (some (.nxt (u13.1,q23))))
def m_club_counting (a0:(List TAct)) (a1:Int):Option (List Int) :=
  (rangeB (m_club_counting_l1 a1) a0 ([],[])).bind fun f16=>Flow.fin f16 fun u13=>(m_slices_Reverse_int_int u13.2).bind fun y29=>some y29
def m_club_books_isMember (a0_0:Int) (a0_1:(List (ByteArray × (List Tclub_stay)))) (a0_2:(List (ByteArray × Int))) (a0_3:(List (ByteArray × (Bool × (List (ByteArray × Bool)) × (List ByteArray))))) (a0_4:(List Int)) (a1:ByteArray):Option Bool :=
  ifB (decide ((((lkM a0_1 a1).getD []).length:Int)>0)) ((getI ((lkM a0_1 a1).getD []) (w64 ((((lkM a0_1 a1).getD []).length:Int) - 1))).bind fun e1=>some (decide (e1.till<0))) (some false)
def m_club_books_isOpen (a0_0:Int) (a0_1:(List (ByteArray × (List Tclub_stay)))) (a0_2:(List (ByteArray × Int))) (a0_3:(List (ByteArray × (Bool × (List (ByteArray × Bool)) × (List ByteArray))))) (a0_4:(List Int)) (a1:ByteArray):Option Bool :=
  optB (lkM a0_3 a1) (some false) (fun t4=>some (!t4.1))
def m_club_books_permits (a0_0:Int) (a0_1:(List (ByteArray × (List Tclub_stay)))) (a0_2:(List (ByteArray × Int))) (a0_3:(List (ByteArray × (Bool × (List (ByteArray × Bool)) × (List ByteArray))))) (a0_4:(List Int)) (a1:TAct):Option Bool :=
  ifB (a1.Kind==1) ((m_club_books_isMember a0_0 a0_1 a0_2 a0_3 a0_4 a1.Who).bind fun y2=>some (!y2)) (ifB (a1.Kind==2) ((m_club_books_isMember a0_0 a0_1 a0_2 a0_3 a0_4 a1.Who).bind fun y3=>some y3) (ifB (a1.Kind==4) (optB (lkM a0_3 a1.Motion) (some true) (fun t7=>some false)) (ifB (a1.Kind==5) ((m_club_books_isMember a0_0 a0_1 a0_2 a0_3 a0_4 a1.Who).bind fun y15=>ifB y15 ((m_club_books_isOpen a0_0 a0_1 a0_2 a0_3 a0_4 a1.Motion).bind fun y16=>some y16) (some false)) (ifB (a1.Kind==6) ((m_club_books_isOpen a0_0 a0_1 a0_2 a0_3 a0_4 a1.Motion).bind fun y17=>some y17) (some true)))))
noncomputable def m_slices_Sorted_string__maps_Keys_map_string_club_stay_string_club_stay_1 (a0_c0_0:(List (ByteArray × (List Tclub_stay)))):Option (List ByteArray) :=
  if a0_c0_0.length≤1000000000 then m_slices_Sort_string_string (a0_c0_0.map Prod.fst) else none
def m_club_books_members_l1 (a0_0:Int) (a0_1:(List (ByteArray × (List Tclub_stay)))) (a0_2:(List (ByteArray × Int))) (a0_3:(List (ByteArray × (Bool × (List (ByteArray × Bool)) × (List ByteArray))))) (a0_4:(List Int)) (i4:Nat) (x5:ByteArray) (u8:(List ByteArray)):Option (Flow (List ByteArray) (List ByteArray)) :=
  (m_club_books_isMember a0_0 a0_1 a0_2 a0_3 a0_4 x5).bind fun y13=>ifB y13 ((appM 16 u8 [x5]).bind fun q15=>some (.nxt q15)) (some (.nxt u8))
def m_club_books_members (a0_0:Int) (a0_1:(List (ByteArray × (List Tclub_stay)))) (a0_2:(List (ByteArray × Int))) (a0_3:(List (ByteArray × (Bool × (List (ByteArray × Bool)) × (List ByteArray))))) (a0_4:(List Int)):Option (List ByteArray) :=
  (m_slices_Sorted_string__maps_Keys_map_string_club_stay_string_club_stay_1 a0_1).bind fun y2=>(rangeM (m_club_books_members_l1 a0_0 a0_1 a0_2 a0_3 a0_4) 0 y2 []).bind fun f11=>Flow.fin f11 fun u8=>some u8
def m_club_books_act (a0_0:Int) (a0_1:(List (ByteArray × (List Tclub_stay)))) (a0_2:(List (ByteArray × Int))) (a0_3:(List (ByteArray × (Bool × (List (ByteArray × Bool)) × (List ByteArray))))) (a0_4:(List Int)) (a1:TAct):Option ((List (ByteArray × (List Tclub_stay))) × (List (ByteArray × Int)) × (List (ByteArray × (Bool × (List (ByteArray × Bool)) × (List ByteArray))))) :=
  ifB (a1.Kind==1) ((appM 24 ((lkM a0_1 a1.Who).getD []) [(Tclub_stay.mk a1.At (-1) a1.Cents)]).bind fun q4=>some (putM a0_1 a1.Who q4,a0_2,a0_3)) (ifB (a1.Kind==2) ((getI ((lkM a0_1 a1.Who).getD []) (w64 ((((lkM a0_1 a1.Who).getD []).length:Int) - 1))).bind fun e13=>some (repM a0_1 a1.Who (((lkM a0_1 a1.Who).getD []).set ((w64 ((((lkM a0_1 a1.Who).getD []).length:Int) - 1)).toNat) (Tclub_stay.mk e13.since a1.At e13.cents)),a0_2,a0_3)) (ifB (a1.Kind==3) (some (a0_1,putM a0_2 a1.Who (w64 (((lkM a0_2 a1.Who).getD 0)+a1.Cents)),a0_3)) (ifB (a1.Kind==4) (some (a0_1,a0_2,putM a0_3 a1.Motion (false,([]:(List (ByteArray × Bool))),([]:List ByteArray)))) (ifB (a1.Kind==5) (optB (lkM a0_3 a1.Motion) (none) (fun t30=>some (a0_1,a0_2,repM a0_3 a1.Motion (t30.1,(putM t30.2.1 a1.Who a1.Yes),t30.2.2)))) (ifB (a1.Kind==6) (optB (lkM a0_3 a1.Motion) ((m_club_books_members a0_0 a0_1 a0_2 a0_3 a0_4).bind fun y45=>none) (fun t43=>(m_club_books_members a0_0 a0_1 a0_2 a0_3 a0_4).bind fun y53=>some (a0_1,a0_2,repM a0_3 a1.Motion (true,t43.2.1,y53)))) (some (a0_1,a0_2,a0_3)))))))
def m_club_booksAt_l1 (a0:(List TAct)) (a1:Int) (i7:Nat) (x8:Int) (u11:((List (ByteArray × (Bool × (List (ByteArray × Bool)) × (List ByteArray)))) × (List (ByteArray × Int)) × (List (ByteArray × (List Tclub_stay))) × (List Int))):Option (Flow ((List (ByteArray × (Bool × (List (ByteArray × Bool)) × (List ByteArray)))) × (List (ByteArray × Int)) × (List (ByteArray × (List Tclub_stay))) × (List Int)) (Int × (List (ByteArray × (List Tclub_stay))) × (List (ByteArray × Int)) × (List (ByteArray × (Bool × (List (ByteArray × Bool)) × (List ByteArray)))) × (List Int))) :=
  (getI a0 x8).bind fun e16=>(m_club_books_permits a1 u11.2.2.1 u11.2.1 u11.1 u11.2.2.2 e16).bind fun y17=>ifB y17 ((getI a0 x8).bind fun e18=>(m_club_books_act a1 u11.2.2.1 u11.2.1 u11.1 u11.2.2.2 e18).bind fun y19=>some (.nxt (y19.2.2,y19.2.1,y19.1,u11.2.2.2))) ((appM 8 u11.2.2.2 [x8]).bind fun q29=>some (.nxt (u11.1,u11.2.1,u11.2.2.1,q29)))
def m_club_booksAt (a0:(List TAct)) (a1:Int):Option (Int × (List (ByteArray × (List Tclub_stay))) × (List (ByteArray × Int)) × (List (ByteArray × (Bool × (List (ByteArray × Bool)) × (List ByteArray)))) × (List Int)) :=
  (m_club_counting a0 a1).bind fun y5=>(rangeM (m_club_booksAt_l1 a0 a1) 0 y5 ([],[],[],[])).bind fun f14=>Flow.fin f14 fun u11=>some (a1,u11.2.2.1,u11.2.1,u11.1,u11.2.2.2)
def m_club_checkedAt (a0:(List TAct)) (a1:Int):Option ((Option (Int × (List (ByteArray × (List Tclub_stay))) × (List (ByteArray × Int)) × (List (ByteArray × (Bool × (List (ByteArray × Bool)) × (List ByteArray)))) × (List Int))) × Int) :=
  (m_club_askedFault a0 a1).bind fun y1=>ifB (y1 != 0) (some (none,y1)) ((m_club_booksAt a0 a1).bind fun y2=>some (some (y2.1,y2.2.1,y2.2.2.1,y2.2.2.2.1,y2.2.2.2.2),0))
def m_club_Members (a0:(List TAct)) (a1:Int):Option ((List ByteArray) × Int) :=
  (m_club_checkedAt a0 a1).bind fun y1=>optB y1.1 (ifB (y1.2 != 0) (some ([],y1.2)) (none)) (fun t2=>ifB (y1.2 != 0) (some ([],y1.2)) ((m_club_books_members t2.1 t2.2.1 t2.2.2.1 t2.2.2.2.1 t2.2.2.2.2).bind fun y33=>some (y33,0)))
def m_gleekeep2_errs_l1  (i1:Nat) (x2:Int) (u4:Unit):Option (Flow Unit Int) :=
  ifB (x2 != 0) (some (.ret x2)) (some (.nxt ()))
def m_gleekeep2_errs (a0:(List Int)):Option Int :=
  (rangeM m_gleekeep2_errs_l1 0 a0 ()).bind fun f7=>Flow.fin f7 fun u4=>some 0
def m_gleekeep2_ready  : Option Bool :=
  (m_piece_Order [(TBar.mk 1 4 2 0 true)]).bind fun y2=>(m_chord_Name (TChord.mk 1 2 1)).bind fun y4=>(m_rehearse_There [(TCame.mk 5 (ByteArray.mk [97,110,110].toArray) false)] 6).bind fun y6=>(m_concert_Long (TProgram.mk [(TItem.mk (ByteArray.mk [97].toArray) (ByteArray.mk [112].toArray) 7 [(ByteArray.mk [97,108,116,111].toArray)])] 0 0 0 (-1))).bind fun y10=>(m_club_Members [(TAct.mk (ByteArray.mk [97].toArray) 1 0 1 (ByteArray.mk [97,110,110].toArray) ByteArray.empty 0 false ByteArray.empty 0)] 0).bind fun y12=>(m_gleekeep2_errs [y2.2,y4.2,y6.2,y10.2,y12.2]).bind fun y15=>ifB (y15==0) (ifB ((y2.1.length:Int)==2) (ifB (y4.1.toList==(ByteArray.mk [99,35,32,109,105,110,47,49].toArray).toList) (ifB ((y6.1.length:Int)==1) (ifB (y10.1==7) (some ((y12.1.length:Int)==1)) (some false)) (some false)) (some false)) (some false)) (some false)
def m_gleekeep2_RehearsalsStay (a0:(List Int)):Option Bool :=
  (m_gleemake_Stream_RightSlots a0 0 4).bind fun y3=>(m_gleemake_Stream_RightSings a0 y3.2).bind fun y6=>(m_gleemake_Stream_RightCames a0 y6.2 8).bind fun y8=>(m_gleemake_Stream_Wishes a0 y8.2).bind fun y10=>(m_gleemake_Stream_RightSlots a0 0 4).bind fun y12=>(m_gleemake_Stream_RightSings a0 y12.2).bind fun y15=>(m_gleemake_Stream_RightCames a0 y15.2 8).bind fun y17=>(m_gleemake_Stream_Wishes a0 y17.2).bind fun y19=>(m_rehearse_MergeCame y8.1 []).bind fun y22=>(m_gleekeep2_spoil_api_Came y22.1).bind fun y24=>(m_rehearse_Ready y3.1 y6.1 y8.1 y10.1 (ByteArray.mk [103,108,111,114,105,97].toArray) 100).bind fun y25=>(m_gleekeep2_spoil_string y25.1).bind fun y27=>(m_rehearse_Lacking y3.1 y6.1 y8.1 y10.1 100).bind fun y28=>(m_gleekeep2_spoil_api_Pair y28.1).bind fun y30=>(m_rehearse_Plan [(TWindow.mk 0 20)] [(ByteArray.mk [103,108,111,114,105,97].toArray),(ByteArray.mk [107,121,114,105,101].toArray)] y6.1 [] y10.1).bind fun y34=>(m_gleekeep2_spoil_string y34.1).bind fun y36=>(m_slices_EqualFunc_api_Slot_api_Slot_api_Slot_api_Slot__gleeref2_SameSlot y3.1 y12.1).bind fun y37=>ifB y37 ((m_slices_Equal_api_Sings_api_Sings y6.1 y15.1).bind fun y38=>ifB y38 ((m_slices_Equal_api_Came_api_Came y8.1 y17.1).bind fun y39=>ifB y39 ((m_slices_Equal_api_Wish_api_Wish y10.1 y19.1).bind fun y40=>ifB y40 ((m_slices_Equal_string_string [(ByteArray.mk [103,108,111,114,105,97].toArray),(ByteArray.mk [107,121,114,105,101].toArray)] [(ByteArray.mk [103,108,111,114,105,97].toArray),(ByteArray.mk [107,121,114,105,101].toArray)]).bind fun y42=>ifB y42 (m_gleekeep2_ready.bind fun y43=>some y43) (some false)) (some false)) (some false)) (some false)) (some false)
end
end Go.G
