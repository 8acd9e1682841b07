/- The models. Written by program. -/
import Derived.Test.YtlkpfhdlfapfhaaGreatDoorXM
namespace Go.G
open Go Go.J
set_option linter.unusedVariables false
noncomputable section
structure Tgleemake_Stream where
  L:(List Int)
  at_:Int
  deriving DecidableEq,Inhabited
structure TFraction where
  Num:Int
  Den:Int
  deriving DecidableEq,Inhabited
structure TTone where
  Note:Int
  Long:TFraction
  Text:ByteArray
  Tied:Bool
  deriving DecidableEq,Inhabited
structure TEdit where
  By:ByteArray
  No:Int
  At:Int
  Part:ByteArray
  Bar:Int
  Tones:(List TTone)
  deriving DecidableEq,Inhabited
structure TBar where
  Beats:Int
  Unit:Int
  Close:Int
  Ending:Int
  Open:Bool
  deriving DecidableEq,Inhabited
structure Tpiece_own where
  by_:ByteArray
  no:Int
  deriving DecidableEq,Inhabited
structure TChord where
  Root:Int
  Kind:Int
  Turn:Int
  deriving DecidableEq,Inhabited
structure TCame where
  At:Int
  Singer:ByteArray
  Left:Bool
  deriving DecidableEq,Inhabited
structure TItem where
  Key:ByteArray
  Places:ByteArray
  Long:Int
  Parts:(List ByteArray)
  deriving DecidableEq,Inhabited
structure TProgram where
  Items:(List TItem)
  Change:Int
  Clap:Int
  Break:Int
  Half:Int
  deriving DecidableEq,Inhabited
structure TAct where
  Site:ByteArray
  No:Int
  At:Int
  Kind:Int
  Who:ByteArray
  Motion:ByteArray
  Cents:Int
  Yes:Bool
  Of:ByteArray
  Other:Int
  deriving DecidableEq,Inhabited
structure TWindow where
  From:Int
  To:Int
  deriving DecidableEq,Inhabited
structure Tpiece_repeat where
  from_:Int
  to_:Int
  times:Int
  deriving DecidableEq,Inhabited
structure Tclub_stay where
  since:Int
  till:Int
  cents:Int
  deriving DecidableEq,Inhabited
structure Tclub_own where
  site:ByteArray
  no:Int
  deriving DecidableEq,Inhabited
structure Tclub_uses where
  who:Bool
  motion:Bool
  cents:Bool
  yes:Bool
  undo:Bool
  deriving DecidableEq,Inhabited
def m_gleemake_Below (a0:Int) (a1:Int):Option Int :=
  ifB (decide (a1<1)) (some 0) ((remM a0 a1).bind fun z1=>ifB (decide (z1<0)) (some (w64 (z1+a1))) (some z1))
def m_gleemake_Stream_Next (a0_0:(List Int)) (a0_1:Int) (a1:Int):Option (Int × Int) :=
  ifB ((a0_0.length:Int)==0) ((m_gleemake_Below (w64 ((w64 (a0_1+1))*7919)) a1).bind fun y1=>some (y1,w64 (a0_1+1))) ((remM (w64 ((w64 (a0_1+1)) - 1)) (a0_0.length:Int)).bind fun z2=>(quoM (w64 ((w64 (a0_1+1)) - 1)) (a0_0.length:Int)).bind fun z3=>(getI a0_0 z2).bind fun e4=>(m_gleemake_Below e4 1073741824).bind fun y5=>(m_gleemake_Below (w64 (y5+(w64 (z3*(w64 (7919+z2)))))) a1).bind fun y6=>some (y6,w64 (a0_1+1)))
def m_gleemake_Stream_Range (a0_0:(List Int)) (a0_1:Int) (a1:Int) (a2:Int):Option (Int × Int) :=
  ifB (decide (a2<a1)) (some (a1,a0_1)) ((m_gleemake_Stream_Next a0_0 a0_1 (w64 ((w64 (a2 - a1))+1))).bind fun y1=>some (w64 (a1+y1.1),y1.2))
def m_gleemake_Stream_Flip (a0_0:(List Int)) (a0_1:Int) (a1:Int):Option (Bool × Int) :=
  (m_gleemake_Stream_Next a0_0 a0_1 a1).bind fun y1=>some (y1.1==0,y1.2)
def m_gleemake_Stream_Pick (a0_0:(List Int)) (a0_1:Int) (a1:(List Int)):Option (Int × Int) :=
  (m_gleemake_Stream_Next a0_0 a0_1 (a1.length:Int)).bind fun y1=>(getI a1 y1.1).bind fun e2=>some (e2,y1.2)
def m_gleemake_Stream_RightBars_1 (a0_0_0:(List Int)) (a0_0_1:Int):Option (TBar × Int) :=
  ((m_gleemake_Stream_Pick a0_0_0 a0_0_1 [1,2,3,4]).bind fun y6=>(m_gleemake_Stream_Pick a0_0_0 y6.2 [4,4,2,8]).bind fun y8=>some (.inl (y8.2,y6.1,y8.1)):Option ((Int × Int × Int) ⊕ (TBar × Int))).bind fun k4=>Sum.fin k4 fun u2=>some ((TBar.mk u2.2.1 u2.2.2 0 0 false),u2.1)
def m_gleemake_Stream_RightBars_l2 (a0_0:(List Int)) (y17:(Int × Int)) (y18:(Int × Int)) (i19:Nat) (x20:Nat) (u22:(Int × Int × (List TBar))):Option (Flow (Int × Int × (List TBar)) (Flow (Int × (List TBar)) ((List TBar) × Int))) :=
  (m_gleemake_Stream_RightBars_1 a0_0 u22.2.1).bind fun y27=>(ifB (decide ((i19:Int)>0)) ((m_gleemake_Stream_Flip a0_0 y27.2 2).bind fun y32=>some (.inl (y32.1,y32.2))) (some (.inl (false,y27.2))):Option ((Bool × Int) ⊕ (Flow (Int × Int × (List TBar)) (Flow (Int × (List TBar)) ((List TBar) × Int))))).bind fun k31=>Sum.fin k31 fun u29=>(ifB u29.1 (some (.inl (min y18.1 (w64 (u22.1+1))))) (some (.inl u22.1)):Option (Int ⊕ (Flow (Int × Int × (List TBar)) (Flow (Int × (List TBar)) ((List TBar) × Int))))).bind fun k35=>Sum.fin k35 fun u33=>(ifB ((i19:Int)==(w64 (y17.1 - 1))) (some (.inl y18.1)) (some (.inl y27.1.Close)):Option (Int ⊕ (Flow (Int × Int × (List TBar)) (Flow (Int × (List TBar)) ((List TBar) × Int))))).bind fun k38=>Sum.fin k38 fun u36=>(appM 40 u22.2.2 [(TBar.mk y27.1.Beats y27.1.Unit u36 u33 ((i19:Int)==0))]).bind fun q40=>some (.nxt (u33,u29.2,q40))
def m_gleemake_Stream_RightBars_l1 (a0_0:(List Int)) (i3:Nat) (x4:Nat) (u7:(Int × (List TBar))):Option (Flow (Int × (List TBar)) ((List TBar) × Int)) :=
  (m_gleemake_Stream_Flip a0_0 u7.1 2).bind fun y12=>ifB (!y12.1) ((m_gleemake_Stream_RightBars_1 a0_0 y12.2).bind fun y13=>(appM 40 u7.2 [y13.1]).bind fun q15=>some (.nxt (y13.2,q15))) ((m_gleemake_Stream_Range a0_0 y12.2 1 3).bind fun y17=>(m_gleemake_Stream_Range a0_0 y17.2 2 3).bind fun y18=>(rangeI y17.1).bind fun L43=>(rangeM (m_gleemake_Stream_RightBars_l2 a0_0 y17 y18) 0 L43 (0,y18.2,u7.2)).bind fun f25=>Flow.fin f25 fun u22=>some (.nxt (u22.2.1,u22.2.2)))
def m_gleemake_Stream_RightBars (a0_0:(List Int)) (a0_1:Int):Option ((List TBar) × Int) :=
  (m_gleemake_Stream_Range a0_0 a0_1 1 4).bind fun y2=>(rangeI y2.1).bind fun L45=>(rangeM (m_gleemake_Stream_RightBars_l1 a0_0) 0 L45 (y2.2,[])).bind fun f10=>Flow.fin f10 fun u7=>some (u7.2,u7.1)
def m_gleeref2_divisor_l1  (u1:(Int × Int)):Option (Flow (Int × Int) Int) :=
  ifB (u1.2 != 0) ((remM u1.1 u1.2).bind fun z5=>some (.nxt (u1.2,z5))) (some (.brk (u1.1,u1.2)))
def m_gleeref2_divisor (a0:Int) (a1:Int):Option Int :=
  (loopM m_gleeref2_divisor_l1 (a0,a1)).bind fun f4=>Flow.fin f4 fun u1=>some (max u1.1 (w64 (0 - u1.1)))
def m_gleeref2_Lowest (a0:Int) (a1:Int):Option TFraction :=
  (m_gleeref2_divisor a0 a1).bind fun y2=>(quoM a0 y2).bind fun z3=>(quoM a1 y2).bind fun z4=>some (TFraction.mk z3 z4)
def m_gleemake_Stream_Some (a0_0:(List Int)) (a0_1:Int) (a1:(List ByteArray)):Option (ByteArray × Int) :=
  (m_gleemake_Stream_Next a0_0 a0_1 (a1.length:Int)).bind fun y1=>(getI a1 y1.1).bind fun e2=>some (e2,y1.2)
def m_gleemake_Stream_TonesFor_l2 (a0_0:(List Int)) (u12:(Int × Int × (List TTone))):Option (Flow (Int × Int × (List TTone)) (Flow (Int × (List TTone)) ((List TTone) × Int))) :=
  ifB (decide (u12.1>0)) ((m_gleemake_Stream_Pick a0_0 u12.2.1 [24,48,48,64,96,192]).bind fun y18=>(m_gleemake_Stream_Pick a0_0 y18.2 [60,60,62,64,67,48,(-1)]).bind fun y20=>(m_gleeref2_Lowest (min u12.1 y18.1) 192).bind fun y21=>(ifB (y20.1 != (-1)) ((m_gleemake_Stream_Some a0_0 y20.2 [ByteArray.empty,ByteArray.empty,(ByteArray.mk [97].toArray),(ByteArray.mk [71,108,111,45].toArray),(ByteArray.mk [114,105,45].toArray),(ByteArray.mk [195,169].toArray),(ByteArray.mk [45].toArray)]).bind fun y27=>some (.inl (y27.2,y27.1))) (some (.inl (y20.2,ByteArray.empty))):Option ((Int × ByteArray) ⊕ (Flow (Int × Int × (List TTone)) (Flow (Int × (List TTone)) ((List TTone) × Int))))).bind fun k25=>Sum.fin k25 fun u23=>(ifB (decide ((w64 ((u12.2.2.length:Int) - 1))≥0)) ((getI u12.2.2 (w64 ((u12.2.2.length:Int) - 1))).bind fun e31=>ifB (e31.Note==y20.1) (ifB (y20.1 != (-1)) ((m_gleemake_Stream_Flip a0_0 u23.1 2).bind fun y32=>some (.inl (y32.1,y32.2))) (some (.inl (false,u23.1)))) (some (.inl (false,u23.1)))) (some (.inl (false,u23.1))):Option ((Bool × Int) ⊕ (Flow (Int × Int × (List TTone)) (Flow (Int × (List TTone)) ((List TTone) × Int))))).bind fun k30=>Sum.fin k30 fun u28=>(ifB u28.1 ((getI u12.2.2 (w64 ((u12.2.2.length:Int) - 1))).bind fun e37=>some (.inl (ByteArray.empty,(u12.2.2.set ((w64 ((u12.2.2.length:Int) - 1)).toNat) (TTone.mk e37.Note e37.Long e37.Text true))))) (some (.inl (u23.2,u12.2.2))):Option ((ByteArray × (List TTone)) ⊕ (Flow (Int × Int × (List TTone)) (Flow (Int × (List TTone)) ((List TTone) × Int))))).bind fun k36=>Sum.fin k36 fun u33=>(appM 48 u33.2 [(TTone.mk y20.1 y21 u33.1 false)]).bind fun q39=>some (.nxt (w64 (u12.1 - (min u12.1 y18.1)),u28.2,q39))) (some (.brk (u12.1,u12.2.1,u12.2.2)))
def m_gleemake_Stream_TonesFor_l1 (a0_0:(List Int)) (i1:Nat) (x2:TBar) (u5:(Int × (List TTone))):Option (Flow (Int × (List TTone)) ((List TTone) × Int)) :=
  (quoM (w64 ((max 1 (min x2.Beats 16))*192)) (max 1 (min x2.Unit 16))).bind fun z11=>(loopM (m_gleemake_Stream_TonesFor_l2 a0_0) (z11,u5.1,u5.2)).bind fun f15=>Flow.fin f15 fun u12=>some (.nxt (u12.2.1,u12.2.2))
def m_gleemake_Stream_TonesFor (a0_0:(List Int)) (a0_1:Int) (a1:(List TBar)):Option ((List TTone) × Int) :=
  (rangeM (m_gleemake_Stream_TonesFor_l1 a0_0) 0 a1 (a0_1,[])).bind fun f8=>Flow.fin f8 fun u5=>some (u5.2,u5.1)
def m_gleemake_Stream_Odd (a0_0:(List Int)) (a0_1:Int) (a1:Int) (a2:Int):Option (Int × Int) :=
  (m_gleemake_Stream_Flip a0_0 a0_1 12).bind fun y1=>ifB y1.1 ((m_gleemake_Stream_Pick a0_0 y1.2 [w64 (a1 - 1),w64 (a2+1),a1,a2,(-1099511627776),1099511627776]).bind fun y3=>some (y3.1,y3.2)) ((m_gleemake_Stream_Range a0_0 y1.2 a1 a2).bind fun y4=>some (y4.1,y4.2))
def m_gleeref2_sign (a0:Int):Option Int :=
  ifB (decide (a0<0)) (some (-1)) (ifB (decide (a0>0)) (some 1) (some 0))
def m_gleeref2_EditOrder (a0:TEdit) (a1:TEdit):Option Int :=
  ifB (a0.At != a1.At) ((m_gleeref2_sign (w64 (a0.At - a1.At))).bind fun y3=>some y3) (ifB (!(a0.By.toList==a1.By.toList)) ((m_strings_Compare a0.By a1.By).bind fun y4=>some y4) ((m_gleeref2_sign (w64 (a0.No - a1.No))).bind fun y5=>some y5))
def m_slices_insertionSortCmpFunc_api_Edit__gleeref2_EditOrder_l2 (a1:Int) (u5:(Int × (List TEdit))):Option (Flow (Int × (List TEdit)) (Flow (Int × (List TEdit)) (List TEdit))) :=
  ifB (decide (u5.1>a1)) ((getI u5.2 u5.1).bind fun e9=>(getI u5.2 (w64 (u5.1 - 1))).bind fun e10=>(m_gleeref2_EditOrder e9 e10).bind fun y11=>ifB (decide (y11<0)) ((getI u5.2 (w64 (u5.1 - 1))).bind fun e12=>(getI u5.2 u5.1).bind fun e13=>(getI u5.2 u5.1).bind fun e14=>(getI (u5.2.set u5.1.toNat e12) (w64 (u5.1 - 1))).bind fun e16=>some (.nxt (w64 (u5.1 - 1),((u5.2.set u5.1.toNat e12).set ((w64 (u5.1 - 1)).toNat) e13)))) (some (.brk (u5.1,u5.2)))) (some (.brk (u5.1,u5.2)))
def m_slices_insertionSortCmpFunc_api_Edit__gleeref2_EditOrder_l1 (a1:Int) (a2:Int) (u1:(Int × (List TEdit))):Option (Flow (Int × (List TEdit)) (List TEdit)) :=
  ifB (decide (u1.1<a2)) ((loopM (m_slices_insertionSortCmpFunc_api_Edit__gleeref2_EditOrder_l2 a1) (u1.1,u1.2)).bind fun f8=>Flow.fin f8 fun u5=>some (.nxt (w64 (u1.1+1),u5.2))) (some (.brk (u1.1,u1.2)))
def m_slices_insertionSortCmpFunc_api_Edit__gleeref2_EditOrder (a0:(List TEdit)) (a1:Int) (a2:Int):Option (List TEdit) :=
  (loopM (m_slices_insertionSortCmpFunc_api_Edit__gleeref2_EditOrder_l1 a1 a2) (w64 (a1+1),a0)).bind fun f4=>Flow.fin f4 fun u1=>some u1.2
def m_slices_stableCmpFunc_api_Edit__gleeref2_EditOrder_l3 (a1:Int) (u9:(Int × Int × Int)) (u13:Unit):Option (Flow Unit (Flow (Int × Int × Int) (List TEdit))) :=
  ifB (decide ((w64 (2*u9.1))≤a1)) (none) (some (.brk ()))
def m_slices_stableCmpFunc_api_Edit__gleeref2_EditOrder_l2 (a1:Int) (u9:(Int × Int × Int)):Option (Flow (Int × Int × Int) (List TEdit)) :=
  ifB (decide (u9.1<a1)) ((loopM (m_slices_stableCmpFunc_api_Edit__gleeref2_EditOrder_l3 a1 u9) ()).bind fun f16=>Flow.fin f16 fun u13=>ifB (decide ((w64 (0+u9.1))<a1)) (none) (some (.nxt (w64 (u9.1*2),0,w64 (2*u9.1))))) (some (.brk (u9.1,u9.2.1,u9.2.2)))
def m_slices_stableCmpFunc_api_Edit__gleeref2_EditOrder_l1 (a1:Int) (u1:(Int × Int × (List TEdit))):Option (Flow (Int × Int × (List TEdit)) (List TEdit)) :=
  ifB (decide (u1.2.1≤a1)) ((m_slices_insertionSortCmpFunc_api_Edit__gleeref2_EditOrder u1.2.2 u1.1 u1.2.1).bind fun y5=>some (.nxt (u1.2.1,w64 (u1.2.1+20),y5))) (some (.brk (u1.1,u1.2.1,u1.2.2)))
def m_slices_stableCmpFunc_api_Edit__gleeref2_EditOrder (a0:(List TEdit)) (a1:Int):Option (List TEdit) :=
  (loopM (m_slices_stableCmpFunc_api_Edit__gleeref2_EditOrder_l1 a1) (0,20,a0)).bind fun f4=>Flow.fin f4 fun u1=>(m_slices_insertionSortCmpFunc_api_Edit__gleeref2_EditOrder u1.2.2 u1.1 a1).bind fun y7=>(loopM (m_slices_stableCmpFunc_api_Edit__gleeref2_EditOrder_l2 a1) (20,u1.1,u1.2.1)).bind fun f12=>Flow.fin f12 fun u9=>some y7
def m_slices_SortStableFunc_api_Edit_api_Edit__gleeref2_EditOrder (a0:(List TEdit)):Option (List TEdit) :=
  (m_slices_stableCmpFunc_api_Edit__gleeref2_EditOrder a0 (a0.length:Int)).bind fun y1=>some y1
def m_gleemake_Stream_Edits_l1 (a0_0:(List Int)) (a1:(List TBar)) (i2:Nat) (x3:Nat) (u6:(Int × Int × (List (ByteArray × Int)) × (List TEdit))):Option (Flow (Int × Int × (List (ByteArray × Int)) × (List TEdit)) ((List TEdit) × Int)) :=
  (m_gleemake_Stream_Pick a0_0 u6.2.1 [0,1,5]).bind fun y12=>(m_gleemake_Stream_Some a0_0 y12.2 [(ByteArray.mk [97,110,110].toArray),(ByteArray.mk [98,111,98].toArray)]).bind fun y14=>(m_gleemake_Stream_Some a0_0 y14.2 [(ByteArray.mk [97,108,116,111].toArray),(ByteArray.mk [97,108,116,111].toArray),(ByteArray.mk [98,97,115,115].toArray)]).bind fun y16=>(m_gleemake_Stream_Next a0_0 y16.2 (max 1 (a1.length:Int))).bind fun y17=>(ifB (decide ((a1.length:Int)>0)) ((sliceI a1 y17.1 (w64 (y17.1+1))).bind fun q25=>(m_gleemake_Stream_TonesFor a0_0 y17.2 q25).bind fun y26=>((getI y26.1 (w64 ((y26.1.length:Int) - 1))).bind fun e31=>ifB (e31.Note != (-1)) ((m_gleemake_Stream_Flip a0_0 y26.2 3).bind fun y32=>some (.inl (y32.1,y32.2))) (some (.inl (false,y26.2))):Option ((Bool × Int) ⊕ ((Int × (List TTone)) ⊕ Flow (Int × Int × (List (ByteArray × Int)) × (List TEdit)) ((List TEdit) × Int)))).bind fun k30=>Sum.fin k30 fun u28=>ifB u28.1 ((getI y26.1 (w64 ((y26.1.length:Int) - 1))).bind fun e33=>some (.inl (u28.2,(y26.1.set ((w64 ((y26.1.length:Int) - 1)).toNat) (TTone.mk e33.Note e33.Long e33.Text true))))) (some (.inl (u28.2,y26.1)))) (some (.inl (y17.2,[]))):Option ((Int × (List TTone)) ⊕ (Flow (Int × Int × (List (ByteArray × Int)) × (List TEdit)) ((List TEdit) × Int)))).bind fun k24=>Sum.fin k24 fun u21=>(m_gleemake_Stream_Flip a0_0 u21.1 60).bind fun y35=>(ifB y35.1 ((m_gleemake_Stream_Next a0_0 y35.2 3).bind fun y40=>ifB (y40.1==0) ((m_gleemake_Stream_Some a0_0 y40.2 [ByteArray.empty,y14.1]).bind fun y42=>(m_gleemake_Stream_Odd a0_0 y42.2 1 5).bind fun y43=>(m_gleemake_Stream_Odd a0_0 y43.2 0 20).bind fun y44=>some (.inl (y44.2,y42.1,y43.1,y44.1,y16.1,y17.1,u21.2))) (ifB (y40.1==1) ((m_gleemake_Stream_Some a0_0 y40.2 [(ByteArray.mk [97,108,116,111].toArray),(ByteArray.mk [122,122].toArray)]).bind fun y46=>(m_gleemake_Stream_Odd a0_0 y46.2 0 3).bind fun y47=>some (.inl (y47.2,y14.1,((lkM (putM u6.2.2.1 y14.1 (w64 (((lkM u6.2.2.1 y14.1).getD 0)+1))) y14.1).getD 0),w64 (u6.1+y12.1),y46.1,y47.1,u21.2))) ((appM 48 u21.2 [(TTone.mk 60 (TFraction.mk 1 4) ByteArray.empty false)]).bind fun q49=>some (.inl (y40.2,y14.1,((lkM (putM u6.2.2.1 y14.1 (w64 (((lkM u6.2.2.1 y14.1).getD 0)+1))) y14.1).getD 0),w64 (u6.1+y12.1),y16.1,y17.1,q49))))) (some (.inl (y35.2,y14.1,((lkM (putM u6.2.2.1 y14.1 (w64 (((lkM u6.2.2.1 y14.1).getD 0)+1))) y14.1).getD 0),w64 (u6.1+y12.1),y16.1,y17.1,u21.2))):Option ((Int × ByteArray × Int × Int × ByteArray × Int × (List TTone)) ⊕ (Flow (Int × Int × (List (ByteArray × Int)) × (List TEdit)) ((List TEdit) × Int)))).bind fun k39=>Sum.fin k39 fun u36=>(appM 80 u6.2.2.2 [(TEdit.mk u36.2.1 u36.2.2.1 u36.2.2.2.1 u36.2.2.2.2.1 u36.2.2.2.2.2.1 u36.2.2.2.2.2.2)]).bind fun q52=>some (.nxt (w64 (u6.1+y12.1),u36.1,putM u6.2.2.1 y14.1 (w64 (((lkM u6.2.2.1 y14.1).getD 0)+1)),q52))
def m_gleemake_Stream_Edits (a0_0:(List Int)) (a0_1:Int) (a1:(List TBar)) (a2:Int):Option ((List TEdit) × Int) :=
  (rangeI a2).bind fun L60=>(rangeM (m_gleemake_Stream_Edits_l1 a0_0 a1) 0 L60 (0,a0_1,[],[])).bind fun f9=>Flow.fin f9 fun u6=>(m_slices_SortStableFunc_api_Edit_api_Edit__gleeref2_EditOrder u6.2.2.2).bind fun y56=>some (y56,u6.2.1)
def m_kit_Outside (a0:Int) (a1:Int) (a2:Int):Option Bool :=
  ifB (decide (a0<a1)) (some true) (some (decide (a0>a2)))
def m_slices_Index_int_int_l1 (a1:Int) (i1:Nat) (x2:Int) (u4:Unit):Option (Flow Unit Int) :=
  ifB (a1==x2) (some (.ret (i1:Int))) (some (.nxt ()))
def m_slices_Index_int_int (a0:(List Int)) (a1:Int):Option Int :=
  (rangeM (m_slices_Index_int_int_l1 a1) 0 a0 ()).bind fun f7=>Flow.fin f7 fun u4=>some (-1)
def m_slices_Contains_int_int (a0:(List Int)) (a1:Int):Option Bool :=
  (m_slices_Index_int_int a0 a1).bind fun y1=>some (decide (y1≥0))
def m_piece_isUnit (a0:Int):Option Bool :=
  (m_slices_Contains_int_int [1,2,4,8,16] a0).bind fun y2=>some y2
def m_piece_barFault (a0:TBar):Option Int :=
  ((m_kit_Outside a0.Beats 1 16).bind fun y5=>ifB y5 (some (.inl true)) ((m_piece_isUnit a0.Unit).bind fun y6=>ifB (!y6) (some (.inl true)) (ifB (a0.Close != 0) ((m_kit_Outside a0.Close 2 9).bind fun y7=>ifB y7 (some (.inl true)) ((m_kit_Outside a0.Ending 0 9).bind fun y8=>some (.inl y8))) ((m_kit_Outside a0.Ending 0 9).bind fun y9=>some (.inl y9)))):Option (Bool ⊕ Int)).bind fun k4=>Sum.fin k4 fun u2=>ifB u2 (some 1) (some 0)
def m_piece_rulesFault_l1 (a0:(List TBar)) (i1:Nat) (x2:TBar) (u4:Bool):Option (Flow Bool Int) :=
  (m_piece_barFault x2).bind fun y9=>ifB (y9 != 0) (some (.ret y9)) ((ifB x2.Open (some (.inl u4)) (some (.inl false)):Option (Bool ⊕ (Flow Bool Int))).bind fun k12=>Sum.fin k12 fun u10=>ifB u10 (some (.ret 16)) ((ifB (!x2.Open) (ifB (!u4) (ifB (x2.Close != 0) (some (.inl true)) (some (.inl (x2.Ending != 0)))) (some (.inl false))) (some (.inl false)):Option (Bool ⊕ (Flow Bool Int))).bind fun k15=>Sum.fin k15 fun u13=>ifB u13 (some (.ret 16)) (ifB u4 ((getI a0 (w64 ((i1:Int) - 1))).bind fun e16=>ifB (decide (x2.Ending<e16.Ending)) (some (.ret 16)) (ifB u4 (some (.nxt (x2.Close==0))) (ifB x2.Open (some (.nxt (x2.Close==0))) (some (.nxt false))))) (ifB u4 (some (.nxt (x2.Close==0))) (ifB x2.Open (some (.nxt (x2.Close==0))) (some (.nxt false)))))))
def m_piece_rulesFault (a0:(List TBar)):Option Int :=
  (rangeM (m_piece_rulesFault_l1 a0) 0 a0 false).bind fun f7=>Flow.fin f7 fun u4=>some 0
def m_piece_repeats_l3 (x22:Tpiece_repeat) (i30:Nat) (x31:TBar) (u33:Unit):Option (Flow Unit (Flow Unit ((List Tpiece_repeat) × Bool))) :=
  (ifB (decide (x22.times>1)) (some (.inl (decide (x31.Ending>x22.times)))) (some (.inl false)):Option (Bool ⊕ (Flow Unit (Flow Unit ((List Tpiece_repeat) × Bool))))).bind fun k40=>Sum.fin k40 fun u38=>ifB u38 (some (.ret (.ret ([],false)))) (some (.nxt ()))
def m_piece_repeats_l2 (a0:(List TBar)) (i21:Nat) (x22:Tpiece_repeat) (u24:Unit):Option (Flow Unit ((List Tpiece_repeat) × Bool)) :=
  (sliceI a0 x22.from_ x22.to_).bind fun q29=>(rangeM (m_piece_repeats_l3 x22) 0 q29 ()).bind fun f36=>Flow.fin f36 fun u33=>some (.nxt ())
def m_piece_repeats_l1  (i1:Nat) (x2:TBar) (u5:(Int × (List Tpiece_repeat))):Option (Flow (Int × (List Tpiece_repeat)) ((List Tpiece_repeat) × Bool)) :=
  (ifB x2.Open (some (.inl (i1:Int))) (some (.inl u5.1)):Option (Int ⊕ (Flow (Int × (List Tpiece_repeat)) ((List Tpiece_repeat) × Bool)))).bind fun k13=>Sum.fin k13 fun u11=>ifB (decide (u11<0)) ((appM 24 u5.2 [(Tpiece_repeat.mk (i1:Int) (w64 ((i1:Int)+1)) 1)]).bind fun q15=>some (.nxt (u11,q15))) (ifB (decide (x2.Close>0)) ((appM 24 u5.2 [(Tpiece_repeat.mk u11 (w64 ((i1:Int)+1)) x2.Close)]).bind fun q18=>some (.nxt ((-1),q18))) (some (.nxt (u11,u5.2))))
def m_piece_repeats (a0:(List TBar)):Option ((List Tpiece_repeat) × Bool) :=
  (rangeM m_piece_repeats_l1 0 a0 ((-1),[])).bind fun f8=>Flow.fin f8 fun u5=>(rangeM (m_piece_repeats_l2 a0) 0 u5.2 ()).bind fun f27=>Flow.fin f27 fun u24=>some (u5.2,decide (u5.1<0))
def m_piece_order_l3 (a0:(List TBar)) (a2:Int) (x2:Tpiece_repeat) (u11:(Int × (List Int))) (u16:(Int × (List Int))):Option (Flow (Int × (List Int)) (Flow (Int × (List Int)) (Flow (List Int) (List Int)))) :=
  (ifB (decide (u16.1<x2.to_)) (some (.inl (decide ((u16.2.length:Int)≤a2)))) (some (.inl false)):Option (Bool ⊕ (Flow (Int × (List Int)) (Flow (Int × (List Int)) (Flow (List Int) (List Int)))))).bind fun k23=>Sum.fin k23 fun u21=>ifB u21 (((getI a0 u16.1).bind fun e27=>ifB (e27.Ending==0) (some (.inl true)) ((getI a0 u16.1).bind fun e28=>some (.inl (e28.Ending==u11.1))):Option (Bool ⊕ (Flow (Int × (List Int)) (Flow (Int × (List Int)) (Flow (List Int) (List Int)))))).bind fun k26=>Sum.fin k26 fun u24=>ifB u24 ((appM 8 u16.2 [u16.1]).bind fun q30=>some (.nxt (w64 (u16.1+1),q30))) (some (.nxt (w64 (u16.1+1),u16.2)))) (some (.brk (u16.1,u16.2)))
def m_piece_order_l2 (a0:(List TBar)) (a2:Int) (x2:Tpiece_repeat) (u11:(Int × (List Int))):Option (Flow (Int × (List Int)) (Flow (List Int) (List Int))) :=
  ifB (decide (u11.1≤x2.times)) ((loopM (m_piece_order_l3 a0 a2 x2 u11) (x2.from_,u11.2)).bind fun f19=>Flow.fin f19 fun u16=>some (.nxt (w64 (u11.1+1),u16.2))) (some (.brk (u11.1,u11.2)))
def m_piece_order_l1 (a0:(List TBar)) (a2:Int) (i1:Nat) (x2:Tpiece_repeat) (u5:(List Int)):Option (Flow (List Int) (List Int)) :=
  (loopM (m_piece_order_l2 a0 a2 x2) (1,u5)).bind fun f14=>Flow.fin f14 fun u11=>some (.nxt u11.2)
def m_piece_order (a0:(List TBar)) (a1:(List Tpiece_repeat)) (a2:Int):Option (List Int) :=
  (rangeM (m_piece_order_l1 a0 a2) 0 a1 []).bind fun f8=>Flow.fin f8 fun u5=>some u5
def m_piece_CheckBars (a0:(List TBar)):Option Int :=
  ifB ((a0.length:Int)==0) (some 8) (ifB (decide ((a0.length:Int)>300)) (some 2) ((m_piece_rulesFault a0).bind fun y1=>ifB (y1 != 0) (some y1) ((m_piece_repeats a0).bind fun y2=>ifB (!y2.2) (some 16) ((m_piece_order a0 y2.1 2000).bind fun y4=>ifB (decide ((y4.length:Int)>2000)) (some 2) (some 0)))))
def m_piece_isLowest_l1  (u2:(Int × Int)):Option (Flow (Int × Int) Bool) :=
  ifB (u2.2 != 0) ((remM u2.1 u2.2).bind fun z6=>some (.nxt (u2.2,z6))) (some (.brk (u2.1,u2.2)))
def m_piece_isLowest (a0:TFraction):Option Bool :=
  (loopM m_piece_isLowest_l1 (a0.Num,a0.Den)).bind fun f5=>Flow.fin f5 fun u2=>ifB (decide (a0.Den>0)) (ifB (u2.1==1) (some true) (some (u2.1==(-1)))) (some false)
def m_piece_isText_l1 (a0:ByteArray) (i5:Nat) (x6:Nat) (u8:Unit):Option (Flow Unit Bool) :=
  ((strI a0 (i5:Int)).bind fun c15=>ifB (decide (c15<33)) (some (.inl true)) ((strI a0 (i5:Int)).bind fun c16=>ifB (c16==127) (some (.inl true)) ((strI a0 (i5:Int)).bind fun c17=>some (.inl (c17==124)))):Option (Bool ⊕ (Flow Unit Bool))).bind fun k14=>Sum.fin k14 fun u12=>ifB u12 (some (.ret false)) (some (.nxt ()))
def m_piece_isText (a0:ByteArray):Option Bool :=
  (ifB (decide ((a0.size:Int)>20)) (some (.inl true)) ((m_utf8_ValidString a0).bind fun y4=>some (.inl (!y4))):Option (Bool ⊕ Bool)).bind fun k3=>Sum.fin k3 fun u1=>ifB u1 (some false) ((rangeI (a0.size:Int)).bind fun L18=>(rangeM (m_piece_isText_l1 a0) 0 L18 ()).bind fun f11=>Flow.fin f11 fun u8=>some true)
def m_piece_toneFault (a0:TTone):Option Int :=
  (ifB (a0.Note != (-1)) ((m_kit_Outside a0.Note 0 127).bind fun y5=>some (.inl y5)) (some (.inl false)):Option (Bool ⊕ Int)).bind fun k4=>Sum.fin k4 fun u2=>ifB u2 (some 1) ((ifB (decide (a0.Long.Num<1)) (some (.inl true)) ((m_piece_isLowest a0.Long).bind fun y9=>some (.inl (!y9))):Option (Bool ⊕ Int)).bind fun k8=>Sum.fin k8 fun u6=>ifB u6 (some 3) (((remM 192 a0.Long.Den).bind fun z13=>ifB (z13 != 0) (some (.inl true)) (some (.inl (decide (a0.Long.Num>(w64 (16*a0.Long.Den)))))):Option (Bool ⊕ Int)).bind fun k12=>Sum.fin k12 fun u10=>ifB u10 (some 1) ((m_piece_isText a0.Text).bind fun y14=>ifB (!y14) (some 3) ((ifB (a0.Note==(-1)) (ifB a0.Tied (some (.inl true)) (some (.inl (!(a0.Text.toList==ByteArray.empty.toList))))) (some (.inl false)):Option (Bool ⊕ Int)).bind fun k17=>Sum.fin k17 fun u15=>ifB u15 (some 16) (some 0)))))
def m_piece_long (a0:TBar):Option Int :=
  (quoM 192 a0.Unit).bind fun z2=>some (w64 (a0.Beats*z2))
def m_piece_units (a0:TFraction):Option Int :=
  (quoM 192 a0.Den).bind fun z2=>some (w64 (a0.Num*z2))
def m_piece_carries (a0:TTone) (a1:TTone):Option Bool :=
  ifB (a1.Note==a0.Note) (some (a1.Text.toList==ByteArray.empty.toList)) (some false)
def m_piece_checkTones_l2 (a1:(List TTone)) (a2:Bool) (i20:Nat) (x21:TTone) (u23:Unit):Option (Flow Unit Int) :=
  ifB x21.Tied (ifB ((i20:Int)==(w64 ((a1.length:Int) - 1))) (ifB (!a2) (some (.ret 16)) (ifB (decide ((i20:Int)<(w64 ((a1.length:Int) - 1)))) ((getI a1 (w64 ((i20:Int)+1))).bind fun e28=>(m_piece_carries x21 e28).bind fun y29=>ifB (!y29) (some (.ret 16)) (some (.nxt ()))) (some (.nxt ())))) (ifB (decide ((i20:Int)<(w64 ((a1.length:Int) - 1)))) ((getI a1 (w64 ((i20:Int)+1))).bind fun e30=>(m_piece_carries x21 e30).bind fun y31=>ifB (!y31) (some (.ret 16)) (some (.nxt ()))) (some (.nxt ())))) (some (.nxt ()))
def m_piece_checkTones_l1 (a0:(List TBar)) (i1:Nat) (x2:TTone) (u4:(Int × Int)):Option (Flow (Int × Int) Int) :=
  (m_piece_toneFault x2).bind fun y9=>ifB (y9 != 0) (some (.ret y9)) ((ifB (u4.2==0) (ifB (u4.1==(a0.length:Int)) (some (.inr (.ret 16))) ((getI a0 u4.1).bind fun e13=>(m_piece_long e13).bind fun y14=>some (.inl (w64 (u4.1+1),y14)))) (some (.inl (u4.1,u4.2))):Option ((Int × Int) ⊕ (Flow (Int × Int) Int))).bind fun k12=>Sum.fin k12 fun u10=>(m_piece_units x2.Long).bind fun y15=>ifB (decide (y15>u10.2)) (some (.ret 16)) ((m_piece_units x2.Long).bind fun y16=>some (.nxt (u10.1,w64 (u10.2 - y16)))))
def m_piece_checkTones (a0:(List TBar)) (a1:(List TTone)) (a2:Bool):Option Int :=
  ifB (decide ((a1.length:Int)>2000)) (some 2) ((rangeM (m_piece_checkTones_l1 a0) 0 a1 (0,0)).bind fun f7=>Flow.fin f7 fun u4=>(ifB (decide (u4.2>0)) (some (.inl true)) (some (.inl (decide (u4.1<(a0.length:Int))))):Option (Bool ⊕ Int)).bind fun k19=>Sum.fin k19 fun u17=>ifB u17 (some 3) ((rangeM (m_piece_checkTones_l2 a1 a2) 0 a1 ()).bind fun f26=>Flow.fin f26 fun u23=>some 0))
def m_piece_CheckTones (a0:(List TBar)) (a1:(List TTone)):Option Int :=
  (m_piece_CheckBars a0).bind fun y1=>ifB (y1 != 0) (some y1) ((m_piece_checkTones a0 a1 false).bind fun y2=>some y2)
def m_slices_Clone_api_Tone_api_Tone (a0:(List TTone)):Option (List TTone) :=
  (appM 48 ([]:List TTone) a0).bind fun q3=>some q3
def m_piece_inBars_l2 (u5:((List TTone) × (List (List TTone)))) (u13:(Int × Int)):Option (Flow (Int × Int) (Flow ((List TTone) × (List (List TTone))) (List (List TTone)))) :=
  ifB (decide (u13.2>0)) ((getI u5.1 u13.1).bind fun e17=>(m_piece_units e17.Long).bind fun y18=>some (.nxt (w64 (u13.1+1),w64 (u13.2 - y18)))) (some (.brk (u13.1,u13.2)))
def m_piece_inBars_l1  (i1:Nat) (x2:TBar) (u5:((List TTone) × (List (List TTone)))):Option (Flow ((List TTone) × (List (List TTone))) (List (List TTone))) :=
  (m_piece_long x2).bind fun y12=>(loopM (m_piece_inBars_l2 u5) (0,y12)).bind fun f16=>Flow.fin f16 fun u13=>(sliceI u5.1 0 u13.1).bind fun q19=>(m_slices_Clone_api_Tone_api_Tone q19).bind fun y20=>(appM 24 u5.2 [y20]).bind fun q23=>(sliceI u5.1 u13.1 (u5.1.length:Int)).bind fun q26=>some (.nxt (q26,q23))
def m_piece_inBars (a0:(List TBar)) (a1:(List TTone)):Option (List (List TTone)) :=
  (rangeM m_piece_inBars_l1 0 a0 (a1,[])).bind fun f8=>Flow.fin f8 fun u5=>some u5.2
def m_piece_played (a0:(List TBar)):Option (List Int) :=
  (m_piece_repeats a0).bind fun y1=>(m_piece_order a0 y1.1 2000).bind fun y3=>some y3
def m_piece_loosened_l1  (i1:Nat) (x2:TTone) (u4:(List TTone)):Option (Flow (List TTone) ((List TTone) × (List TTone))) :=
  ifB ((i1:Int)==(w64 ((u4.length:Int) - 1))) ((getI u4 (i1:Int)).bind fun e8=>some (.nxt (u4.set ((i1:Int).toNat) (TTone.mk e8.Note e8.Long e8.Text false)))) ((getI u4 (i1:Int)).bind fun e9=>(getI u4 (w64 ((i1:Int)+1))).bind fun e10=>(m_piece_carries e9 e10).bind fun y11=>ifB (!y11) ((getI u4 (i1:Int)).bind fun e12=>some (.nxt (u4.set ((i1:Int).toNat) (TTone.mk e12.Note e12.Long e12.Text false)))) (some (.nxt u4)))
def m_piece_loosened (a0:(List TTone)):Option ((List TTone) × (List TTone)) :=
  (rangeM m_piece_loosened_l1 0 a0 a0).bind fun f7=>Flow.fin f7 fun u4=>some (u4,u4)
def m_piece_playedTones_l1 (y1:(List (List TTone))) (i6:Nat) (x7:Int) (u10:(List TTone)):Option (Flow (List TTone) (List TTone)) :=
  (getI y1 x7).bind fun e15=>(appM 48 u10 e15).bind fun q16=>some (.nxt q16)
def m_piece_playedTones (a0:(List TBar)) (a1:(List TTone)):Option (List TTone) :=
  (m_piece_inBars a0 a1).bind fun y1=>(m_piece_played a0).bind fun y4=>(rangeM (m_piece_playedTones_l1 y1) 0 y4 []).bind fun f13=>Flow.fin f13 fun u10=>(m_piece_loosened u10).bind fun y19=>some y19.1
def m_piece_Played (a0:(List TBar)) (a1:(List TTone)):Option ((List TTone) × Int) :=
  (m_piece_CheckTones a0 a1).bind fun y1=>ifB (y1 != 0) (some ([],y1)) ((m_piece_playedTones a0 a1).bind fun y3=>some (y3,0))
def m_gleekeep2_first_api_Tone (a0:(List TTone)) (a1:Int):Option (List TTone) :=
  some a0
def m_kit_Lowest_l1  (u2:(Int × Int)):Option (Flow (Int × Int) TFraction) :=
  ifB (u2.2 != 0) ((remM u2.1 u2.2).bind fun z6=>some (.nxt (u2.2,z6))) (some (.brk (u2.1,u2.2)))
def m_kit_Lowest (a0:Int) (a1:Int):Option TFraction :=
  (loopM m_kit_Lowest_l1 (a0,a1)).bind fun f5=>Flow.fin f5 fun u2=>(quoM a0 u2.1).bind fun z7=>(quoM a1 u2.1).bind fun z8=>some (TFraction.mk z7 z8)
def m_piece_fraction (a0:Int):Option TFraction :=
  (m_kit_Lowest a0 192).bind fun y2=>some y2
def m_piece_Joined_l1  (i3:Nat) (x4:TTone) (u7:(Bool × (List TTone))):Option (Flow (Bool × (List TTone)) ((List TTone) × Int)) :=
  ifB u7.1 ((getI u7.2 (w64 ((u7.2.length:Int) - 1))).bind fun e13=>(m_piece_units e13.Long).bind fun y14=>(m_piece_units x4.Long).bind fun y15=>(m_piece_fraction (w64 (y14+y15))).bind fun y16=>some (.nxt (x4.Tied,(u7.2.set ((w64 ((u7.2.length:Int) - 1)).toNat) (TTone.mk e13.Note y16 e13.Text e13.Tied))))) ((appM 48 u7.2 [(TTone.mk x4.Note x4.Long x4.Text false)]).bind fun q20=>some (.nxt (x4.Tied,q20)))
def m_piece_Joined (a0:(List TBar)) (a1:(List TTone)):Option ((List TTone) × Int) :=
  (m_piece_CheckTones a0 a1).bind fun y1=>ifB (y1 != 0) (some ([],y1)) ((rangeM m_piece_Joined_l1 0 a1 (false,[])).bind fun f10=>Flow.fin f10 fun u7=>some (u7.2,0))
def m_piece_Shift_l1 (a2:Int) (i7:Nat) (x8:TTone) (u10:(List TTone)):Option (Flow (List TTone) ((List TTone) × Int)) :=
  (getI u10 (i7:Int)).bind fun e15=>ifB (e15.Note==(-1)) (some (.nxt u10)) ((getI u10 (i7:Int)).bind fun e16=>(getI u10 (i7:Int)).bind fun e17=>(getI (u10.set ((i7:Int).toNat) (TTone.mk (w64 (e16.Note+a2)) e17.Long e17.Text e17.Tied)) (i7:Int)).bind fun e18=>(m_kit_Outside e18.Note 0 127).bind fun y19=>ifB y19 (some (.ret ([],16))) (some (.nxt (u10.set ((i7:Int).toNat) (TTone.mk (w64 (e16.Note+a2)) e17.Long e17.Text e17.Tied)))))
def m_piece_Shift (a0:(List TBar)) (a1:(List TTone)) (a2:Int):Option ((List TTone) × Int) :=
  (m_piece_CheckTones a0 a1).bind fun y1=>ifB (y1 != 0) (some ([],y1)) ((m_kit_Outside a2 (-127) 127).bind fun y3=>ifB y3 (some ([],1)) ((m_slices_Clone_api_Tone_api_Tone a1).bind fun y5=>(rangeM (m_piece_Shift_l1 a2) 0 y5 y5).bind fun f13=>Flow.fin f13 fun u10=>some (u10,0)))
def m_kit_IsKey (a0:ByteArray):Option Bool :=
  ifB (!(a0.toList==ByteArray.empty.toList)) (ifB (decide ((a0.size:Int)≤40)) ((strI a0 0).bind fun c1=>(m_strings_IndexByte (ByteArray.mk [97,98,99,100,101,102,103,104,105,106,107,108,109,110,111,112,113,114,115,116,117,118,119,120,121,122].toArray) c1).bind fun y2=>ifB (decide (y2≥0)) ((m_strings_Trim a0 (ByteArray.mk [97,98,99,100,101,102,103,104,105,106,107,108,109,110,111,112,113,114,115,116,117,118,119,120,121,122,48,49,50,51,52,53,54,55,56,57,45,95].toArray)).bind fun y3=>some (y3.toList==ByteArray.empty.toList)) (some false)) (some false)) (some false)
def m_piece_partsFault_l1 (a0:(List ByteArray)) (i1:Nat) (x2:ByteArray) (u4:Unit):Option (Flow Unit Int) :=
  (m_kit_IsKey x2).bind fun y8=>ifB (!y8) (some (.ret 5)) ((ifB (decide ((i1:Int)>0)) ((getI a0 (w64 ((i1:Int) - 1))).bind fun e12=>some (.inl (Op.bytesLess x2.toList e12.toList||x2.toList==e12.toList))) (some (.inl false)):Option (Bool ⊕ (Flow Unit Int))).bind fun k11=>Sum.fin k11 fun u9=>ifB u9 (some (.ret 7)) (some (.nxt ())))
def m_piece_partsFault (a0:(List ByteArray)):Option Int :=
  ifB (decide ((a0.length:Int)>12)) (some 2) ((rangeM (m_piece_partsFault_l1 a0) 0 a0 ()).bind fun f7=>Flow.fin f7 fun u4=>some 0)
def m_kit_IsMoment (a0:Int):Option Bool :=
  (m_kit_Outside a0 0 345686399999).bind fun y1=>some (!y1)
def m_slices_Index_string_string_l1 (a1:ByteArray) (i1:Nat) (x2:ByteArray) (u4:Unit):Option (Flow Unit Int) :=
  ifB (a1.toList==x2.toList) (some (.ret (i1:Int))) (some (.nxt ()))
def m_slices_Index_string_string (a0:(List ByteArray)) (a1:ByteArray):Option Int :=
  (rangeM (m_slices_Index_string_string_l1 a1) 0 a0 ()).bind fun f7=>Flow.fin f7 fun u4=>some (-1)
def m_slices_Contains_string_string (a0:(List ByteArray)) (a1:ByteArray):Option Bool :=
  (m_slices_Index_string_string a0 a1).bind fun y1=>some (decide (y1≥0))
def m_piece_bare (a0:TBar):Option (List TBar) :=
  some [(TBar.mk a0.Beats a0.Unit 0 0 false)]
def m_piece_editFault (a0:(List TBar)) (a1:(List ByteArray)) (a2:TEdit):Option Int :=
  (m_kit_IsKey a2.By).bind fun y2=>ifB (!y2) (some 5) (((m_kit_Outside a2.No 1 1000000).bind fun y6=>ifB y6 (some (.inl true)) ((m_kit_IsMoment a2.At).bind fun y7=>some (.inl (!y7))):Option (Bool ⊕ Int)).bind fun k5=>Sum.fin k5 fun u3=>ifB u3 (some 1) ((m_slices_Contains_string_string a1 a2.Part).bind fun y8=>ifB (!y8) (some 8) ((m_kit_Outside a2.Bar 0 (w64 ((a0.length:Int) - 1))).bind fun y9=>ifB y9 (some 1) ((getI a0 a2.Bar).bind fun e10=>(m_piece_bare e10).bind fun y11=>(m_piece_checkTones y11 a2.Tones true).bind fun y13=>some y13))))
def m_cmp_isNaN_int (a0:Int):Option Bool :=
  some (a0 != a0)
def m_cmp_Compare_int (a0:Int) (a1:Int):Option Int :=
  (m_cmp_isNaN_int a0).bind fun y1=>(m_cmp_isNaN_int a1).bind fun y2=>ifB y1 (ifB y2 (some 0) (some (-1))) (ifB y2 (some 1) (ifB (decide (a0<a1)) (some (-1)) (ifB (decide (a0>a1)) (some 1) (some 0))))
def m_cmp_Or_int_l1  (i1:Nat) (x2:Int) (u4:Unit):Option (Flow Unit Int) :=
  ifB (x2 != 0) (some (.ret x2)) (some (.nxt ()))
def m_cmp_Or_int (a0:(List Int)):Option Int :=
  (rangeM m_cmp_Or_int_l1 0 a0 ()).bind fun f7=>Flow.fin f7 fun u4=>some 0
def m_piece_compare (a0:TEdit) (a1:TEdit):Option Int :=
  (m_cmp_Compare_int a0.At a1.At).bind fun y3=>(m_strings_Compare a0.By a1.By).bind fun y4=>(m_cmp_Compare_int a0.No a1.No).bind fun y5=>(m_cmp_Or_int [y3,y4,y5]).bind fun y7=>some y7
def m_piece_checkEdits_l2  (i13:Nat) (x14:TEdit) (u16:(List (Tpiece_own × Bool))):Option (Flow (List (Tpiece_own × Bool)) Int) :=
  ifB ((lkM u16 (Tpiece_own.mk x14.By x14.No)).getD false) (some (.ret 6)) (some (.nxt (putM u16 (Tpiece_own.mk x14.By x14.No) true)))
def m_piece_checkEdits_l1 (a0:(List TBar)) (a1:(List ByteArray)) (a2:(List TEdit)) (i1:Nat) (x2:TEdit) (u4:Unit):Option (Flow Unit Int) :=
  (m_piece_editFault a0 a1 x2).bind fun y9=>ifB (y9 != 0) (some (.ret y9)) (ifB (decide ((i1:Int)>0)) ((getI a2 (w64 ((i1:Int) - 1))).bind fun e10=>(m_piece_compare e10 x2).bind fun y11=>ifB (decide (y11≥0)) (some (.ret 7)) (some (.nxt ()))) (some (.nxt ())))
def m_piece_checkEdits (a0:(List TBar)) (a1:(List ByteArray)) (a2:(List TEdit)):Option Int :=
  ifB (decide ((a2.length:Int)>1000)) (some 2) ((rangeM (m_piece_checkEdits_l1 a0 a1 a2) 0 a2 ()).bind fun f7=>Flow.fin f7 fun u4=>(rangeM m_piece_checkEdits_l2 0 a2 []).bind fun f19=>Flow.fin f19 fun u16=>some 0)
def m_piece_CheckEdits (a0:(List TBar)) (a1:(List ByteArray)) (a2:(List TEdit)):Option Int :=
  (m_piece_CheckBars a0).bind fun y1=>ifB (y1 != 0) (some y1) ((m_piece_partsFault a1).bind fun y2=>ifB (y2 != 0) (some y2) ((m_piece_checkEdits a0 a1 a2).bind fun y3=>some y3))
def m_slices_Grow_api_Tone_api_Tone__nil (a1:Int):Option (List TTone) :=
  ifB (decide (a1<0)) (none) (ifB (decide ((w64 (a1 - (w64 (0 - 0))))>0)) ((sliceI ([]:List TTone) 0 0).bind fun q2=>(growM 48 (w64 (a1 - (w64 (0 - 0))))).bind fun u3=>some []) (some []))
def m_slices_Concat_api_Tone_api_Tone_l2  (i10:Nat) (x11:(List TTone)) (u13:(List TTone)):Option (Flow (List TTone) (List TTone)) :=
  (appM 48 u13 x11).bind fun q18=>some (.nxt q18)
def m_slices_Concat_api_Tone_api_Tone_l1  (i1:Nat) (x2:(List TTone)) (u4:Int):Option (Flow Int (List TTone)) :=
  ifB (decide ((w64 (u4+(x2.length:Int)))<0)) (none) (some (.nxt (w64 (u4+(x2.length:Int)))))
def m_slices_Concat_api_Tone_api_Tone (a0:(List (List TTone))):Option (List TTone) :=
  (rangeM m_slices_Concat_api_Tone_api_Tone_l1 0 a0 0).bind fun f7=>Flow.fin f7 fun u4=>(m_slices_Grow_api_Tone_api_Tone__nil u4).bind fun y8=>(rangeM m_slices_Concat_api_Tone_api_Tone_l2 0 a0 y8).bind fun f16=>Flow.fin f16 fun u13=>some u13
def m_piece_Written_l2 (a3:ByteArray) (a4:Int) (i27:Nat) (x28:TEdit) (u30:(List (List TTone))):Option (Flow (List (List TTone)) ((List TTone) × Int)) :=
  (ifB (x28.Part.toList==a3.toList) (some (.inl (decide (x28.At≤a4)))) (some (.inl false)):Option (Bool ⊕ (Flow (List (List TTone)) ((List TTone) × Int)))).bind fun k38=>Sum.fin k38 fun u36=>ifB u36 ((getI u30 x28.Bar).bind fun e39=>some (.nxt (u30.set x28.Bar.toNat x28.Tones))) (some (.nxt u30))
def m_piece_Written_l1  (i12:Nat) (x13:TBar) (u15:(List (List TTone))):Option (Flow (List (List TTone)) ((List TTone) × Int)) :=
  (m_piece_long x13).bind fun y21=>(m_piece_fraction y21).bind fun y22=>(getI u15 (i12:Int)).bind fun e24=>some (.nxt (u15.set ((i12:Int).toNat) [(TTone.mk (-1) y22 ByteArray.empty false)]))
def m_piece_Written (a0:(List TBar)) (a1:(List ByteArray)) (a2:(List TEdit)) (a3:ByteArray) (a4:Int):Option ((List TTone) × Int) :=
  (m_piece_CheckEdits a0 a1 a2).bind fun y1=>ifB (y1 != 0) (some ([],y1)) ((m_slices_Contains_string_string a1 a3).bind fun y3=>ifB (!y3) (some ([],8)) ((m_kit_IsMoment a4).bind fun y5=>ifB (!y5) (some ([],1)) ((makeM 24 ([]:(List TTone)) (a0.length:Int)).bind fun q10=>(rangeM m_piece_Written_l1 0 a0 q10).bind fun f18=>Flow.fin f18 fun u15=>(rangeM (m_piece_Written_l2 a3 a4) 0 a2 u15).bind fun f33=>Flow.fin f33 fun u30=>(m_slices_Concat_api_Tone_api_Tone u30).bind fun y42=>ifB (decide ((y42.length:Int)>2000)) (some ([],2)) ((m_piece_loosened y42).bind fun y45=>some (y45.1,0)))))
def m_gleekeep2_spoil_api_Tone_l1  (i2:Nat) (x3:TTone) (u5:(List TTone)):Option (Flow (List TTone) (List TTone)) :=
  (getI u5 (i2:Int)).bind fun e9=>some (.nxt (u5.set ((i2:Int).toNat) (TTone.mk 0 (TFraction.mk 0 0) ByteArray.empty false)))
def m_gleekeep2_spoil_api_Tone (a0:(List TTone)):Option (List TTone) :=
  (rangeM m_gleekeep2_spoil_api_Tone_l1 0 a0 a0).bind fun f8=>Flow.fin f8 fun u5=>some u5
def m_piece_InBars (a0:(List TBar)) (a1:(List TTone)):Option ((List (List TTone)) × Int) :=
  (m_piece_CheckTones a0 a1).bind fun y1=>ifB (y1 != 0) (some ([],y1)) ((m_piece_inBars a0 a1).bind fun y3=>some (y3,0))
def m_slices_Grow_api_Edit_api_Edit__nil (a1:Int):Option (List TEdit) :=
  ifB (decide (a1<0)) (none) (ifB (decide ((w64 (a1 - (w64 (0 - 0))))>0)) ((sliceI ([]:List TEdit) 0 0).bind fun q2=>(growM 80 (w64 (a1 - (w64 (0 - 0))))).bind fun u3=>some []) (some []))
def m_slices_Concat_api_Edit_api_Edit_l2  (i11:Nat) (x12:(List TEdit)) (u14:(List TEdit)):Option (Flow (List TEdit) (List TEdit)) :=
  (appM 80 u14 x12).bind fun q19=>some (.nxt q19)
def m_slices_Concat_api_Edit_api_Edit_l1  (i1:Nat) (x2:(List TEdit)) (u4:Int):Option (Flow Int (List TEdit)) :=
  ifB (decide ((w64 (u4+(x2.length:Int)))<0)) (none) (some (.nxt (w64 (u4+(x2.length:Int)))))
def m_slices_Concat_api_Edit_api_Edit (a0:(List (List TEdit))):Option (List TEdit) :=
  (rangeM m_slices_Concat_api_Edit_api_Edit_l1 0 a0 0).bind fun f7=>Flow.fin f7 fun u4=>(m_slices_Grow_api_Edit_api_Edit__nil u4).bind fun y8=>(rangeM m_slices_Concat_api_Edit_api_Edit_l2 0 a0 y8).bind fun f17=>Flow.fin f17 fun u14=>some u14
def m_slices_Equal_api_Tone_api_Tone_l1 (a1:(List TTone)) (i1:Nat) (x2:TTone) (u4:Unit):Option (Flow Unit Bool) :=
  (getI a1 (i1:Int)).bind fun e8=>ifB (!(decide (x2=e8))) (some (.ret false)) (some (.nxt ()))
def m_slices_Equal_api_Tone_api_Tone (a0:(List TTone)) (a1:(List TTone)):Option Bool :=
  ifB ((a0.length:Int) != (a1.length:Int)) (some false) ((rangeM (m_slices_Equal_api_Tone_api_Tone_l1 a1) 0 a0 ()).bind fun f7=>Flow.fin f7 fun u4=>some true)
def m_piece_same (a0:TEdit) (a1:TEdit):Option Bool :=
  (m_piece_compare a0 a1).bind fun y3=>ifB (y3==0) (ifB (a0.Part.toList==a1.Part.toList) (ifB (a0.Bar==a1.Bar) ((m_slices_Equal_api_Tone_api_Tone a0.Tones a1.Tones).bind fun y4=>some y4) (some false)) (some false)) (some false)
def m_bits_Len (a0:Int):Option Int :=
  (m_bits_Len64 a0).bind fun y1=>some y1
def m_slices_insertionSortCmpFunc_api_Edit__piece_compare_l2 (a1:Int) (u5:(Int × (List TEdit))):Option (Flow (Int × (List TEdit)) (Flow (Int × (List TEdit)) (List TEdit))) :=
  ifB (decide (u5.1>a1)) ((getI u5.2 u5.1).bind fun e9=>(getI u5.2 (w64 (u5.1 - 1))).bind fun e10=>(m_piece_compare e9 e10).bind fun y11=>ifB (decide (y11<0)) ((getI u5.2 (w64 (u5.1 - 1))).bind fun e12=>(getI u5.2 u5.1).bind fun e13=>(getI u5.2 u5.1).bind fun e14=>(getI (u5.2.set u5.1.toNat e12) (w64 (u5.1 - 1))).bind fun e16=>some (.nxt (w64 (u5.1 - 1),((u5.2.set u5.1.toNat e12).set ((w64 (u5.1 - 1)).toNat) e13)))) (some (.brk (u5.1,u5.2)))) (some (.brk (u5.1,u5.2)))
def m_slices_insertionSortCmpFunc_api_Edit__piece_compare_l1 (a1:Int) (a2:Int) (u1:(Int × (List TEdit))):Option (Flow (Int × (List TEdit)) (List TEdit)) :=
  ifB (decide (u1.1<a2)) ((loopM (m_slices_insertionSortCmpFunc_api_Edit__piece_compare_l2 a1) (u1.1,u1.2)).bind fun f8=>Flow.fin f8 fun u5=>some (.nxt (w64 (u1.1+1),u5.2))) (some (.brk (u1.1,u1.2)))
def m_slices_insertionSortCmpFunc_api_Edit__piece_compare (a0:(List TEdit)) (a1:Int) (a2:Int):Option (List TEdit) :=
  (loopM (m_slices_insertionSortCmpFunc_api_Edit__piece_compare_l1 a1 a2) (w64 (a1+1),a0)).bind fun f4=>Flow.fin f4 fun u1=>some u1.2
def m_slices_pdqsortCmpFunc_api_Edit__piece_compare_l1 (a0:(List TEdit)) (a1:Int) (a2:Int) (a3:Int) (u1:Unit):Option (Flow Unit (List TEdit)) :=
  ifB (decide ((w64 (a2 - a1))≤12)) ((m_slices_insertionSortCmpFunc_api_Edit__piece_compare a0 a1 a2).bind fun y5=>some (.ret y5)) (ifB (a3==0) (none) ((ifB (!true) (none) (some (.inl ())):Option (Unit ⊕ (Flow Unit (List TEdit)))).bind fun k9=>Sum.fin k9 fun u7=>none))
def m_slices_pdqsortCmpFunc_api_Edit__piece_compare (a0:(List TEdit)) (a1:Int) (a2:Int) (a3:Int):Option (List TEdit) :=
  (loopM (m_slices_pdqsortCmpFunc_api_Edit__piece_compare_l1 a0 a1 a2 a3) ()).bind fun f4=>Flow.fin f4 fun u1=>some a0
def m_slices_SortFunc_api_Edit_api_Edit__piece_compare (a0:(List TEdit)):Option (List TEdit) :=
  (m_bits_Len (IntKind.wrap .u64 (a0.length:Int))).bind fun y1=>(m_slices_pdqsortCmpFunc_api_Edit__piece_compare a0 0 (a0.length:Int) y1).bind fun y2=>some y2
def m_piece_Merge_l1  (i10:Nat) (x11:TEdit) (u14:((List (Tpiece_own × TEdit)) × (List TEdit))):Option (Flow ((List (Tpiece_own × TEdit)) × (List TEdit)) ((List TEdit) × Int)) :=
  (ifB (hasM u14.1 (Tpiece_own.mk x11.By x11.No)) ((m_piece_same (TEdit.mk (((lkM u14.1 (Tpiece_own.mk x11.By x11.No)).getD ((TEdit.mk ByteArray.empty 0 0 ByteArray.empty 0 []):TEdit)).By) (((lkM u14.1 (Tpiece_own.mk x11.By x11.No)).getD ((TEdit.mk ByteArray.empty 0 0 ByteArray.empty 0 []):TEdit)).No) (((lkM u14.1 (Tpiece_own.mk x11.By x11.No)).getD ((TEdit.mk ByteArray.empty 0 0 ByteArray.empty 0 []):TEdit)).At) (((lkM u14.1 (Tpiece_own.mk x11.By x11.No)).getD ((TEdit.mk ByteArray.empty 0 0 ByteArray.empty 0 []):TEdit)).Part) (((lkM u14.1 (Tpiece_own.mk x11.By x11.No)).getD ((TEdit.mk ByteArray.empty 0 0 ByteArray.empty 0 []):TEdit)).Bar) (((lkM u14.1 (Tpiece_own.mk x11.By x11.No)).getD ((TEdit.mk ByteArray.empty 0 0 ByteArray.empty 0 []):TEdit)).Tones)) x11).bind fun y29=>some (.inl (!y29))) (some (.inl false)):Option (Bool ⊕ (Flow ((List (Tpiece_own × TEdit)) × (List TEdit)) ((List TEdit) × Int)))).bind fun k28=>Sum.fin k28 fun u26=>ifB u26 (some (.ret ([],13))) (ifB (!(hasM u14.1 (Tpiece_own.mk x11.By x11.No))) ((m_slices_Clone_api_Tone_api_Tone x11.Tones).bind fun y34=>(appM 80 u14.2 [(TEdit.mk x11.By x11.No x11.At x11.Part x11.Bar y34)]).bind fun q37=>some (.nxt (putM u14.1 (Tpiece_own.mk x11.By x11.No) x11,q37))) (some (.nxt (u14.1,u14.2))))
def m_piece_Merge (a0:(List TBar)) (a1:(List ByteArray)) (a2:(List TEdit)) (a3:(List TEdit)):Option ((List TEdit) × Int) :=
  (m_piece_CheckEdits a0 a1 a2).bind fun y1=>ifB (y1 != 0) (some ([],y1)) ((m_piece_checkEdits a0 a1 a3).bind fun y3=>ifB (y3 != 0) (some ([],y3)) ((m_slices_Concat_api_Edit_api_Edit [a2,a3]).bind fun y7=>(rangeM m_piece_Merge_l1 0 y7 ([],[])).bind fun f17=>Flow.fin f17 fun u14=>ifB (decide ((u14.2.length:Int)>1000)) (some ([],2)) ((permG m_slices_SortFunc_api_Edit_api_Edit__piece_compare u14.2).bind fun y42=>some (y42,0))))
def m_slices_Equal_api_Bar_api_Bar_l1 (a1:(List TBar)) (i1:Nat) (x2:TBar) (u4:Unit):Option (Flow Unit Bool) :=
  (getI a1 (i1:Int)).bind fun e8=>ifB (!(decide (x2=e8))) (some (.ret false)) (some (.nxt ()))
def m_slices_Equal_api_Bar_api_Bar (a0:(List TBar)) (a1:(List TBar)):Option Bool :=
  ifB ((a0.length:Int) != (a1.length:Int)) (some false) ((rangeM (m_slices_Equal_api_Bar_api_Bar_l1 a1) 0 a0 ()).bind fun f7=>Flow.fin f7 fun u4=>some true)
def m_gleeref2_SameEdit (a0:TEdit) (a1:TEdit):Option Bool :=
  (m_gleeref2_EditOrder a0 a1).bind fun y3=>ifB (y3==0) (ifB (a0.Part.toList==a1.Part.toList) (ifB (a0.Bar==a1.Bar) ((m_slices_Equal_api_Tone_api_Tone a0.Tones a1.Tones).bind fun y4=>some y4) (some false)) (some false)) (some false)
def m_slices_EqualFunc_api_Edit_api_Edit_api_Edit_api_Edit__gleeref2_SameEdit_l1 (a1:(List TEdit)) (i1:Nat) (x2:TEdit) (u4:Unit):Option (Flow Unit Bool) :=
  (getI a1 (i1:Int)).bind fun e9=>(m_gleeref2_SameEdit x2 e9).bind fun y11=>ifB (!y11) (some (.ret false)) (some (.nxt ()))
def m_slices_EqualFunc_api_Edit_api_Edit_api_Edit_api_Edit__gleeref2_SameEdit (a0:(List TEdit)) (a1:(List TEdit)):Option Bool :=
  ifB ((a0.length:Int) != (a1.length:Int)) (some false) ((rangeM (m_slices_EqualFunc_api_Edit_api_Edit_api_Edit_api_Edit__gleeref2_SameEdit_l1 a1) 0 a0 ()).bind fun f7=>Flow.fin f7 fun u4=>some true)
def m_piece_Order (a0:(List TBar)):Option ((List Int) × Int) :=
  (m_piece_CheckBars a0).bind fun y1=>ifB (y1 != 0) (some ([],y1)) ((m_piece_played a0).bind fun y3=>some (y3,0))
def m_chord_isKind (a0:Int):Option Bool :=
  (m_kit_Outside a0 1 7).bind fun y1=>some (!y1)
def m_chord_above (a0:Int):Option (List Int) :=
  (getI [[],[0,4,7],[0,3,7],[0,3,6],[0,4,8],[0,4,7,10],[0,4,7,11],[0,3,7,10]] a0).bind fun e12=>some e12
def m_chord_CheckChord (a0:TChord):Option Int :=
  (m_kit_Outside a0.Root 0 11).bind fun y2=>ifB y2 (some 1) ((m_chord_isKind a0.Kind).bind fun y3=>ifB (!y3) (some 4) ((m_chord_above a0.Kind).bind fun y4=>(m_kit_Outside a0.Turn 0 (w64 ((y4.length:Int) - 1))).bind fun y6=>ifB y6 (some 1) (some 0)))
def m_chord_rootWords  : Option (List ByteArray) :=
  some [(ByteArray.mk [99].toArray),(ByteArray.mk [99,35].toArray),(ByteArray.mk [100].toArray),(ByteArray.mk [100,35].toArray),(ByteArray.mk [101].toArray),(ByteArray.mk [102].toArray),(ByteArray.mk [102,35].toArray),(ByteArray.mk [103].toArray),(ByteArray.mk [103,35].toArray),(ByteArray.mk [97].toArray),(ByteArray.mk [97,35].toArray),(ByteArray.mk [98].toArray)]
def m_chord_kindWords  : Option (List ByteArray) :=
  some [ByteArray.empty,(ByteArray.mk [109,97,106].toArray),(ByteArray.mk [109,105,110].toArray),(ByteArray.mk [100,105,109].toArray),(ByteArray.mk [97,117,103].toArray),(ByteArray.mk [55].toArray),(ByteArray.mk [109,97,106,55].toArray),(ByteArray.mk [109,105,110,55].toArray)]
def m_chord_Name (a0:TChord):Option (ByteArray × Int) :=
  (m_chord_CheckChord a0).bind fun y2=>ifB (y2 != 0) (some (ByteArray.empty,y2)) ((m_chord_rootWords.bind fun y6=>(getI y6 a0.Root).bind fun e8=>(catM e8 (ByteArray.mk [32].toArray)).bind fun c9=>m_chord_kindWords.bind fun y10=>(getI y10 a0.Kind).bind fun e12=>(catM c9 e12).bind fun c13=>some (.inl c13):Option (ByteArray ⊕ (ByteArray × Int))).bind fun k5=>Sum.fin k5 fun u3=>ifB (decide (a0.Turn>0)) ((m_strconv_Itoa a0.Turn).bind fun y18=>(catM (ByteArray.mk [47].toArray) y18).bind fun c19=>(catM u3 c19).bind fun c20=>some (c20,0)) (some (u3,0)))
def m_rehearse_flagNumber (a0:Bool):Option Int :=
  ifB a0 (some 1) (some 0)
def m_rehearse_compareCame (a0:TCame) (a1:TCame):Option Int :=
  (m_cmp_Compare_int a0.At a1.At).bind fun y3=>(m_strings_Compare a0.Singer a1.Singer).bind fun y4=>(m_rehearse_flagNumber a0.Left).bind fun y5=>(m_rehearse_flagNumber a1.Left).bind fun y6=>(m_cmp_Compare_int y5 y6).bind fun y7=>(m_cmp_Or_int [y3,y4,y7]).bind fun y9=>some y9
def m_rehearse_CheckCame_l1 (a0:(List TCame)) (i1:Nat) (x2:TCame) (u4:Unit):Option (Flow Unit Int) :=
  (m_kit_IsMoment x2.At).bind fun y9=>ifB (!y9) (some (.ret 1)) ((m_kit_IsKey x2.Singer).bind fun y10=>ifB (!y10) (some (.ret 5)) (ifB (decide ((i1:Int)>0)) ((getI a0 (w64 ((i1:Int) - 1))).bind fun e11=>(m_rehearse_compareCame e11 x2).bind fun y12=>ifB (decide (y12≥0)) (some (.ret 7)) (some (.nxt ()))) (some (.nxt ()))))
def m_rehearse_CheckCame (a0:(List TCame)):Option Int :=
  ifB (decide ((a0.length:Int)>5000)) (some 2) ((rangeM (m_rehearse_CheckCame_l1 a0) 0 a0 ()).bind fun f7=>Flow.fin f7 fun u4=>some 0)
def m_rehearse_joined_l1  (i1:Nat) (x2:TWindow) (u5:(List TWindow)):Option (Flow (List TWindow) (List TWindow)) :=
  ifB (decide ((w64 ((u5.length:Int) - 1))≥0)) ((getI u5 (w64 ((u5.length:Int) - 1))).bind fun e11=>ifB (decide (x2.From≤e11.To)) ((getI u5 (w64 ((u5.length:Int) - 1))).bind fun e12=>(getI u5 (w64 ((u5.length:Int) - 1))).bind fun e13=>some (.nxt (u5.set ((w64 ((u5.length:Int) - 1)).toNat) (TWindow.mk e13.From (max e12.To x2.To))))) ((appM 16 u5 [x2]).bind fun q15=>some (.nxt q15))) ((appM 16 u5 [x2]).bind fun q18=>some (.nxt q18))
def m_rehearse_joined (a0:(List TWindow)):Option (List TWindow) :=
  (rangeM m_rehearse_joined_l1 0 a0 []).bind fun f8=>Flow.fin f8 fun u5=>some u5
def m_rehearse_presences_l3  (i50:Nat) (x51:ByteArray) (u57:(List (ByteArray × (List TWindow)))):Option (Flow (List (ByteArray × (List TWindow))) (List (ByteArray × (List TWindow)))) :=
  (m_rehearse_joined ((lkM u57 x51).getD [])).bind fun y62=>some (.nxt (putM u57 x51 y62))
def m_rehearse_presences_l2  (i33:Nat) (x34:(ByteArray × Int)) (u38:(List (ByteArray × (List TWindow)))):Option (Flow (List (ByteArray × (List TWindow))) (List (ByteArray × (List TWindow)))) :=
  (appM 16 ((lkM u38 x34.1).getD []) [(TWindow.mk x34.2 345686400000)]).bind fun q44=>some (.nxt (putM u38 x34.1 q44))
def m_rehearse_presences_l1  (i3:Nat) (x4:TCame) (u6:((List (ByteArray × Int)) × (List (ByteArray × (List TWindow))))):Option (Flow ((List (ByteArray × Int)) × (List (ByteArray × (List TWindow)))) (List (ByteArray × (List TWindow)))) :=
  (ifB (!x4.Left) (some (.inl (!(hasM u6.1 x4.Singer)))) (some (.inl false)):Option (Bool ⊕ (Flow ((List (ByteArray × Int)) × (List (ByteArray × (List TWindow)))) (List (ByteArray × (List TWindow)))))).bind fun k13=>Sum.fin k13 fun u11=>ifB u11 (some (.nxt (putM u6.1 x4.Singer x4.At,u6.2))) ((ifB x4.Left (some (.inl (hasM u6.1 x4.Singer))) (some (.inl false)):Option (Bool ⊕ (Flow ((List (ByteArray × Int)) × (List (ByteArray × (List TWindow)))) (List (ByteArray × (List TWindow)))))).bind fun k18=>Sum.fin k18 fun u16=>ifB u16 (ifB (decide (((lkM u6.1 x4.Singer).getD 0)<x4.At)) ((appM 16 ((lkM u6.2 x4.Singer).getD []) [(TWindow.mk ((lkM u6.1 x4.Singer).getD 0) x4.At)]).bind fun q22=>some (.nxt (delM u6.1 x4.Singer,putM u6.2 x4.Singer q22))) (some (.nxt (delM u6.1 x4.Singer,u6.2)))) (some (.nxt (u6.1,u6.2))))
def m_rehearse_presences (a0:(List TCame)):Option (List (ByteArray × (List TWindow))) :=
  (rangeM m_rehearse_presences_l1 0 a0 ([],[])).bind fun f9=>Flow.fin f9 fun u6=>anyOrd u6.1 fun L41=>(rangeM m_rehearse_presences_l2 0 L41 u6.2).bind fun f69=>Flow.fin f69 fun u38=>anyOrd (u38.map Prod.fst) fun L60=>(rangeM m_rehearse_presences_l3 0 L60 u38).bind fun f68=>Flow.fin f68 fun u57=>some (canonM u57)
def m_kit_Has (a0:TWindow) (a1:Int):Option Bool :=
  ifB (decide (a0.From≤a1)) (some (decide (a1<a0.To))) (some false)
def m_rehearse_There_1 (a0:TWindow) (a1_0:Int):Option Bool :=
  (m_kit_Has a0 a1_0).bind fun y2=>some y2
def m_slices_IndexFunc_api_Window_api_Window__rehearse_There_1_l1 (a1_c0_0:Int) (i1:Nat) (x2:TWindow) (u4:Unit):Option (Flow Unit Int) :=
  (m_rehearse_There_1 x2 a1_c0_0).bind fun y8=>ifB y8 (some (.ret (i1:Int))) (some (.nxt ()))
def m_slices_IndexFunc_api_Window_api_Window__rehearse_There_1 (a0:(List TWindow)) (a1_c0_0:Int):Option Int :=
  (rangeM (m_slices_IndexFunc_api_Window_api_Window__rehearse_There_1_l1 a1_c0_0) 0 a0 ()).bind fun f7=>Flow.fin f7 fun u4=>some (-1)
def m_slices_ContainsFunc_api_Window_api_Window__rehearse_There_1 (a0:(List TWindow)) (a1_c0_0:Int):Option Bool :=
  (m_slices_IndexFunc_api_Window_api_Window__rehearse_There_1 a0 a1_c0_0).bind fun y1=>some (decide (y1≥0))
noncomputable def m_slices_Sorted_string__maps_Keys_map_string_bool_string_bool_1 (a0_c0_0:(List (ByteArray × Bool))):Option (List ByteArray) :=
  if a0_c0_0.length≤1000000000 then m_slices_Sort_string_string (a0_c0_0.map Prod.fst) else none
def m_rehearse_There_l1 (a1:Int) (q12:(List (ByteArray × (List TWindow)))) (i16:Nat) (x17:ByteArray) (u23:(List (ByteArray × Bool))):Option (Flow (List (ByteArray × Bool)) ((List ByteArray) × Int)) :=
  (m_slices_ContainsFunc_api_Window_api_Window__rehearse_There_1 ((lkM q12 x17).getD []) a1).bind fun y28=>ifB y28 (some (.nxt (putM u23 x17 true))) (some (.nxt u23))
def m_rehearse_There (a0:(List TCame)) (a1:Int):Option ((List ByteArray) × Int) :=
  (m_rehearse_CheckCame a0).bind fun y2=>ifB (y2 != 0) (some ([],y2)) ((m_kit_IsMoment a1).bind fun y4=>ifB (!y4) (some ([],1)) ((m_rehearse_presences a0).bind fun y7=>anyOrd y7 fun q12=>anyOrd (q12.map Prod.fst) fun L26=>(rangeM (m_rehearse_There_l1 a1 q12) 0 L26 []).bind fun f34=>Flow.fin f34 fun u23=>(m_slices_Sorted_string__maps_Keys_map_string_bool_string_bool_1 u23).bind fun y32=>some (y32,0)))
def m_concert_CheckItems_1 (a0:TItem) (a1_0:ByteArray) (a1_1:ByteArray) (a1_2:Int) (a1_3:(List ByteArray)):Option Bool :=
  some (a0.Key.toList==a1_0.toList)
def m_slices_IndexFunc_api_Item_api_Item__concert_CheckItems_1_l1 (a1_c0_0:ByteArray) (a1_c0_1:ByteArray) (a1_c0_2:Int) (a1_c0_3:(List ByteArray)) (i1:Nat) (x2:TItem) (u4:Unit):Option (Flow Unit Int) :=
  (m_concert_CheckItems_1 x2 a1_c0_0 a1_c0_1 a1_c0_2 a1_c0_3).bind fun y8=>ifB y8 (some (.ret (i1:Int))) (some (.nxt ()))
def m_slices_IndexFunc_api_Item_api_Item__concert_CheckItems_1 (a0:(List TItem)) (a1_c0_0:ByteArray) (a1_c0_1:ByteArray) (a1_c0_2:Int) (a1_c0_3:(List ByteArray)):Option Int :=
  (rangeM (m_slices_IndexFunc_api_Item_api_Item__concert_CheckItems_1_l1 a1_c0_0 a1_c0_1 a1_c0_2 a1_c0_3) 0 a0 ()).bind fun f7=>Flow.fin f7 fun u4=>some (-1)
def m_slices_ContainsFunc_api_Item_api_Item__concert_CheckItems_1 (a0:(List TItem)) (a1_c0_0:ByteArray) (a1_c0_1:ByteArray) (a1_c0_2:Int) (a1_c0_3:(List ByteArray)):Option Bool :=
  (m_slices_IndexFunc_api_Item_api_Item__concert_CheckItems_1 a0 a1_c0_0 a1_c0_1 a1_c0_2 a1_c0_3).bind fun y1=>some (decide (y1≥0))
def m_concert_partsFault_l1 (a0:(List ByteArray)) (i1:Nat) (x2:ByteArray) (u4:Unit):Option (Flow Unit Int) :=
  (m_kit_IsKey x2).bind fun y8=>ifB (!y8) (some (.ret 5)) ((ifB (decide ((i1:Int)>0)) ((getI a0 (w64 ((i1:Int) - 1))).bind fun e12=>some (.inl (Op.bytesLess x2.toList e12.toList||x2.toList==e12.toList))) (some (.inl false)):Option (Bool ⊕ (Flow Unit Int))).bind fun k11=>Sum.fin k11 fun u9=>ifB u9 (some (.ret 7)) (some (.nxt ())))
def m_concert_partsFault (a0:(List ByteArray)):Option Int :=
  ifB ((a0.length:Int)==0) (some 8) (ifB (decide ((a0.length:Int)>12)) (some 2) ((rangeM (m_concert_partsFault_l1 a0) 0 a0 ()).bind fun f7=>Flow.fin f7 fun u4=>some 0))
def m_concert_CheckItems_l1 (a0:(List TItem)) (i1:Nat) (x2:TItem) (u4:Unit):Option (Flow Unit Int) :=
  ((m_kit_IsKey x2.Key).bind fun y12=>ifB (!y12) (some (.inl true)) ((m_kit_IsKey x2.Places).bind fun y13=>some (.inl (!y13))):Option (Bool ⊕ (Flow Unit Int))).bind fun k11=>Sum.fin k11 fun u9=>ifB u9 (some (.ret 5)) ((sliceI a0 0 (i1:Int)).bind fun q14=>(m_slices_ContainsFunc_api_Item_api_Item__concert_CheckItems_1 q14 x2.Key x2.Places x2.Long x2.Parts).bind fun y15=>ifB y15 (some (.ret 6)) ((m_kit_Outside x2.Long 1 86400000).bind fun y16=>ifB y16 (some (.ret 1)) ((m_concert_partsFault x2.Parts).bind fun y17=>ifB (y17 != 0) (some (.ret y17)) (some (.nxt ())))))
def m_concert_CheckItems (a0:(List TItem)):Option Int :=
  ifB (decide ((a0.length:Int)>60)) (some 2) ((rangeM (m_concert_CheckItems_l1 a0) 0 a0 ()).bind fun f7=>Flow.fin f7 fun u4=>some 0)
def m_concert_CheckProgram (a0:TProgram):Option Int :=
  (m_concert_CheckItems a0.Items).bind fun y2=>ifB (y2 != 0) (some y2) (((m_kit_Outside a0.Change 0 86400000).bind fun y6=>ifB y6 (some (.inl true)) ((m_kit_Outside a0.Clap 0 86400000).bind fun y7=>ifB y7 (some (.inl true)) ((m_kit_Outside a0.Break 0 86400000).bind fun y8=>ifB y8 (some (.inl true)) ((m_kit_Outside a0.Half (-1) (max (-1) (w64 ((a0.Items.length:Int) - 2)))).bind fun y9=>some (.inl y9)))):Option (Bool ⊕ Int)).bind fun k5=>Sum.fin k5 fun u3=>ifB u3 (some 1) (some 0))
def m_concert_change (a0:TProgram) (a1:TItem) (a2:TItem):Option Int :=
  ifB (!(a1.Places.toList==a2.Places.toList)) (some a0.Change) (some a0.Clap)
def m_concert_behind (a0:TProgram) (a1:Int):Option Int :=
  ifB (a1==a0.Half) (some a0.Break) ((getI a0.Items a1).bind fun e2=>(getI a0.Items (w64 (a1+1))).bind fun e3=>(m_concert_change a0 e2 e3).bind fun y4=>some y4)
def m_concert_begins_l1 (a0:TProgram) (i2:Nat) (x3:TItem) (u6:(Int × (List Int))):Option (Flow (Int × (List Int)) ((List Int) × Int)) :=
  (appM 8 u6.2 [u6.1]).bind fun q13=>ifB (decide ((w64 ((i2:Int)+1))<(a0.Items.length:Int))) ((m_concert_behind a0 (i2:Int)).bind fun y15=>some (.nxt (w64 ((w64 (u6.1+x3.Long))+y15),q13))) (some (.nxt (w64 (u6.1+x3.Long),q13)))
def m_concert_begins (a0:TProgram):Option ((List Int) × Int) :=
  (rangeM (m_concert_begins_l1 a0) 0 a0.Items (0,[])).bind fun f9=>Flow.fin f9 fun u6=>some (u6.2,u6.1)
def m_concert_Long (a0:TProgram):Option (Int × Int) :=
  (m_concert_CheckProgram a0).bind fun y2=>ifB (y2 != 0) (some (0,y2)) ((m_concert_begins a0).bind fun y3=>some (y3.2,0))
def m_club_usesOf (a0:Int):Option Tclub_uses :=
  ifB (a0==1) (ifB (a0==4) (ifB (a0==1) (some (Tclub_uses.mk true true true (a0==5) (a0==7))) (some (Tclub_uses.mk true true (a0==3) (a0==5) (a0==7)))) (ifB (a0==5) (ifB (a0==1) (some (Tclub_uses.mk true true true (a0==5) (a0==7))) (some (Tclub_uses.mk true true (a0==3) (a0==5) (a0==7)))) (ifB (a0==1) (some (Tclub_uses.mk true (a0==6) true (a0==5) (a0==7))) (some (Tclub_uses.mk true (a0==6) (a0==3) (a0==5) (a0==7)))))) (ifB (a0==2) (ifB (a0==4) (ifB (a0==1) (some (Tclub_uses.mk true true true (a0==5) (a0==7))) (some (Tclub_uses.mk true true (a0==3) (a0==5) (a0==7)))) (ifB (a0==5) (ifB (a0==1) (some (Tclub_uses.mk true true true (a0==5) (a0==7))) (some (Tclub_uses.mk true true (a0==3) (a0==5) (a0==7)))) (ifB (a0==1) (some (Tclub_uses.mk true (a0==6) true (a0==5) (a0==7))) (some (Tclub_uses.mk true (a0==6) (a0==3) (a0==5) (a0==7)))))) (ifB (a0==3) (ifB (a0==4) (ifB (a0==1) (some (Tclub_uses.mk true true true (a0==5) (a0==7))) (some (Tclub_uses.mk true true (a0==3) (a0==5) (a0==7)))) (ifB (a0==5) (ifB (a0==1) (some (Tclub_uses.mk true true true (a0==5) (a0==7))) (some (Tclub_uses.mk true true (a0==3) (a0==5) (a0==7)))) (ifB (a0==1) (some (Tclub_uses.mk true (a0==6) true (a0==5) (a0==7))) (some (Tclub_uses.mk true (a0==6) (a0==3) (a0==5) (a0==7)))))) (ifB (a0==4) (ifB (a0==1) (some (Tclub_uses.mk (a0==5) true true (a0==5) (a0==7))) (some (Tclub_uses.mk (a0==5) true (a0==3) (a0==5) (a0==7)))) (ifB (a0==5) (ifB (a0==1) (some (Tclub_uses.mk (a0==5) true true (a0==5) (a0==7))) (some (Tclub_uses.mk (a0==5) true (a0==3) (a0==5) (a0==7)))) (ifB (a0==1) (some (Tclub_uses.mk (a0==5) (a0==6) true (a0==5) (a0==7))) (some (Tclub_uses.mk (a0==5) (a0==6) (a0==3) (a0==5) (a0==7))))))))
def m_club_formed (a0:TAct):Option Int :=
  (m_kit_IsKey a0.Site).bind fun y2=>ifB (!y2) (some 5) (((m_kit_Outside a0.No 1 1000000).bind fun y6=>ifB y6 (some (.inl true)) ((m_kit_IsMoment a0.At).bind fun y7=>some (.inl (!y7))):Option (Bool ⊕ Int)).bind fun k5=>Sum.fin k5 fun u3=>ifB u3 (some 1) ((m_kit_Outside a0.Kind 1 7).bind fun y8=>ifB y8 (some 4) ((m_club_usesOf a0.Kind).bind fun y9=>(ifB (a0.Kind==3) (some (.inl 1)) (some (.inl 0)):Option (Int ⊕ Int)).bind fun k13=>Sum.fin k13 fun u11=>(ifB y9.who ((m_kit_IsKey a0.Who).bind fun y17=>ifB (!y17) (some (.inl true)) (ifB y9.motion ((m_kit_IsKey a0.Motion).bind fun y18=>ifB (!y18) (some (.inl true)) (ifB y9.undo ((m_kit_IsKey a0.Of).bind fun y19=>some (.inl (!y19))) (some (.inl false)))) (ifB y9.undo ((m_kit_IsKey a0.Of).bind fun y20=>some (.inl (!y20))) (some (.inl false))))) (ifB y9.motion ((m_kit_IsKey a0.Motion).bind fun y21=>ifB (!y21) (some (.inl true)) (ifB y9.undo ((m_kit_IsKey a0.Of).bind fun y22=>some (.inl (!y22))) (some (.inl false)))) (ifB y9.undo ((m_kit_IsKey a0.Of).bind fun y23=>some (.inl (!y23))) (some (.inl false)))):Option (Bool ⊕ Int)).bind fun k16=>Sum.fin k16 fun u14=>ifB u14 (some 5) ((ifB y9.cents ((m_kit_Outside a0.Cents u11 1000000000).bind fun y27=>ifB y27 (some (.inl true)) (ifB y9.undo ((m_kit_Outside a0.Other 1 1000000).bind fun y28=>some (.inl y28)) (some (.inl false)))) (ifB y9.undo ((m_kit_Outside a0.Other 1 1000000).bind fun y29=>some (.inl y29)) (some (.inl false))):Option (Bool ⊕ Int)).bind fun k26=>Sum.fin k26 fun u24=>ifB u24 (some 1) ((ifB (!y9.who) (ifB (!(a0.Who.toList==ByteArray.empty.toList)) (some (.inl true)) (ifB (!y9.motion) (ifB (!(a0.Motion.toList==ByteArray.empty.toList)) (some (.inl true)) (ifB (!y9.cents) (ifB (a0.Cents != 0) (some (.inl true)) (ifB (!y9.yes) (ifB a0.Yes (some (.inl true)) (ifB (!y9.undo) (ifB (!(a0.Of.toList==ByteArray.empty.toList)) (some (.inl true)) (some (.inl (a0.Other != 0)))) (some (.inl false)))) (ifB (!y9.undo) (ifB (!(a0.Of.toList==ByteArray.empty.toList)) (some (.inl true)) (some (.inl (a0.Other != 0)))) (some (.inl false))))) (ifB (!y9.yes) (ifB a0.Yes (some (.inl true)) (ifB (!y9.undo) (ifB (!(a0.Of.toList==ByteArray.empty.toList)) (some (.inl true)) (some (.inl (a0.Other != 0)))) (some (.inl false)))) (ifB (!y9.undo) (ifB (!(a0.Of.toList==ByteArray.empty.toList)) (some (.inl true)) (some (.inl (a0.Other != 0)))) (some (.inl false)))))) (ifB (!y9.cents) (ifB (a0.Cents != 0) (some (.inl true)) (ifB (!y9.yes) (ifB a0.Yes (some (.inl true)) (ifB (!y9.undo) (ifB (!(a0.Of.toList==ByteArray.empty.toList)) (some (.inl true)) (some (.inl (a0.Other != 0)))) (some (.inl false)))) (ifB (!y9.undo) (ifB (!(a0.Of.toList==ByteArray.empty.toList)) (some (.inl true)) (some (.inl (a0.Other != 0)))) (some (.inl false))))) (ifB (!y9.yes) (ifB a0.Yes (some (.inl true)) (ifB (!y9.undo) (ifB (!(a0.Of.toList==ByteArray.empty.toList)) (some (.inl true)) (some (.inl (a0.Other != 0)))) (some (.inl false)))) (ifB (!y9.undo) (ifB (!(a0.Of.toList==ByteArray.empty.toList)) (some (.inl true)) (some (.inl (a0.Other != 0)))) (some (.inl false))))))) (ifB (!y9.motion) (ifB (!(a0.Motion.toList==ByteArray.empty.toList)) (some (.inl true)) (ifB (!y9.cents) (ifB (a0.Cents != 0) (some (.inl true)) (ifB (!y9.yes) (ifB a0.Yes (some (.inl true)) (ifB (!y9.undo) (ifB (!(a0.Of.toList==ByteArray.empty.toList)) (some (.inl true)) (some (.inl (a0.Other != 0)))) (some (.inl false)))) (ifB (!y9.undo) (ifB (!(a0.Of.toList==ByteArray.empty.toList)) (some (.inl true)) (some (.inl (a0.Other != 0)))) (some (.inl false))))) (ifB (!y9.yes) (ifB a0.Yes (some (.inl true)) (ifB (!y9.undo) (ifB (!(a0.Of.toList==ByteArray.empty.toList)) (some (.inl true)) (some (.inl (a0.Other != 0)))) (some (.inl false)))) (ifB (!y9.undo) (ifB (!(a0.Of.toList==ByteArray.empty.toList)) (some (.inl true)) (some (.inl (a0.Other != 0)))) (some (.inl false)))))) (ifB (!y9.cents) (ifB (a0.Cents != 0) (some (.inl true)) (ifB (!y9.yes) (ifB a0.Yes (some (.inl true)) (ifB (!y9.undo) (ifB (!(a0.Of.toList==ByteArray.empty.toList)) (some (.inl true)) (some (.inl (a0.Other != 0)))) (some (.inl false)))) (ifB (!y9.undo) (ifB (!(a0.Of.toList==ByteArray.empty.toList)) (some (.inl true)) (some (.inl (a0.Other != 0)))) (some (.inl false))))) (ifB (!y9.yes) (ifB a0.Yes (some (.inl true)) (ifB (!y9.undo) (ifB (!(a0.Of.toList==ByteArray.empty.toList)) (some (.inl true)) (some (.inl (a0.Other != 0)))) (some (.inl false)))) (ifB (!y9.undo) (ifB (!(a0.Of.toList==ByteArray.empty.toList)) (some (.inl true)) (some (.inl (a0.Other != 0)))) (some (.inl false)))))):Option (Bool ⊕ Int)).bind fun k32=>Sum.fin k32 fun u30=>ifB u30 (some 3) (some 0))))))
def m_club_compare (a0:TAct) (a1:TAct):Option Int :=
  (m_cmp_Compare_int a0.At a1.At).bind fun y3=>(m_strings_Compare a0.Site a1.Site).bind fun y4=>(m_cmp_Compare_int a0.No a1.No).bind fun y5=>(m_cmp_Or_int [y3,y4,y5]).bind fun y7=>some y7
def m_club_CheckActs_l2  (i13:Nat) (x14:TAct) (u16:(List (Tclub_own × Bool))):Option (Flow (List (Tclub_own × Bool)) Int) :=
  ifB ((lkM u16 (Tclub_own.mk x14.Site x14.No)).getD false) (some (.ret 6)) (some (.nxt (putM u16 (Tclub_own.mk x14.Site x14.No) true)))
def m_club_CheckActs_l1 (a0:(List TAct)) (i1:Nat) (x2:TAct) (u4:Unit):Option (Flow Unit Int) :=
  (m_club_formed x2).bind fun y9=>ifB (y9 != 0) (some (.ret y9)) (ifB (decide ((i1:Int)>0)) ((getI a0 (w64 ((i1:Int) - 1))).bind fun e10=>(m_club_compare e10 x2).bind fun y11=>ifB (decide (y11≥0)) (some (.ret 7)) (some (.nxt ()))) (some (.nxt ())))
def m_club_CheckActs (a0:(List TAct)):Option Int :=
  ifB (decide ((a0.length:Int)>2000)) (some 2) ((rangeM (m_club_CheckActs_l1 a0) 0 a0 ()).bind fun f7=>Flow.fin f7 fun u4=>(rangeM m_club_CheckActs_l2 0 a0 []).bind fun f19=>Flow.fin f19 fun u16=>some 0)
def m_club_askedFault (a0:(List TAct)) (a1:Int):Option Int :=
  (m_club_CheckActs a0).bind fun y1=>ifB (y1 != 0) (some y1) ((m_kit_IsMoment a1).bind fun y2=>ifB (!y2) (some 1) (some 0))
def m_slices_Reverse_int_int_l1  (u1:(Int × Int × (List Int))):Option (Flow (Int × Int × (List Int)) (List Int)) :=
  ifB (decide (u1.1<u1.2.1)) ((getI u1.2.2 u1.2.1).bind fun e5=>(getI u1.2.2 u1.1).bind fun e6=>(getI u1.2.2 u1.1).bind fun e7=>(getI (u1.2.2.set u1.1.toNat e5) u1.2.1).bind fun e8=>some (.nxt (w64 (u1.1+1),w64 (u1.2.1 - 1),((u1.2.2.set u1.1.toNat e5).set u1.2.1.toNat e6)))) (some (.brk (u1.1,u1.2.1,u1.2.2)))
def m_slices_Reverse_int_int (a0:(List Int)):Option (List Int) :=
  (loopM m_slices_Reverse_int_int_l1 (0,w64 ((a0.length:Int) - 1),a0)).bind fun f4=>Flow.fin f4 fun u1=>some u1.2.2
def m_club_counting_l1 (a1:Int) (i6:Nat) (x7:TAct) (u13:((List (Tclub_own × Bool)) × (List Int))):Option (Flow ((List (Tclub_own × Bool)) × (List Int)) (List Int)) :=
  (ifB (decide (x7.At>a1)) (some (.inl true)) (some (.inl ((lkM u13.1 (Tclub_own.mk x7.Site x7.No)).getD false))):Option (Bool ⊕ (Flow ((List (Tclub_own × Bool)) × (List Int)) (List Int)))).bind fun k21=>Sum.fin k21 fun u19=>ifB u19 (some (.nxt (u13.1,u13.2))) ((appM 8 u13.2 [(i6:Int)]).bind fun q23=>ifB (x7.Kind==7) (some (.nxt (putM u13.1 (Tclub_own.mk x7.Of x7.Other) true,q23))) (some (.nxt (u13.1,q23))))
def m_club_counting (a0:(List TAct)) (a1:Int):Option (List Int) :=
  (rangeB (m_club_counting_l1 a1) a0 ([],[])).bind fun f16=>Flow.fin f16 fun u13=>(m_slices_Reverse_int_int u13.2).bind fun y29=>some y29
def m_club_books_isMember (a0_0:Int) (a0_1:(List (ByteArray × (List Tclub_stay)))) (a0_2:(List (ByteArray × Int))) (a0_3:(List (ByteArray × (Bool × (List (ByteArray × Bool)) × (List ByteArray))))) (a0_4:(List Int)) (a1:ByteArray):Option Bool :=
  ifB (decide ((((lkM a0_1 a1).getD []).length:Int)>0)) ((getI ((lkM a0_1 a1).getD []) (w64 ((((lkM a0_1 a1).getD []).length:Int) - 1))).bind fun e1=>some (decide (e1.till<0))) (some false)
def m_club_books_isOpen (a0_0:Int) (a0_1:(List (ByteArray × (List Tclub_stay)))) (a0_2:(List (ByteArray × Int))) (a0_3:(List (ByteArray × (Bool × (List (ByteArray × Bool)) × (List ByteArray))))) (a0_4:(List Int)) (a1:ByteArray):Option Bool :=
  optB (lkM a0_3 a1) (some false) (fun t4=>some (!t4.1))
def m_club_books_permits (a0_0:Int) (a0_1:(List (ByteArray × (List Tclub_stay)))) (a0_2:(List (ByteArray × Int))) (a0_3:(List (ByteArray × (Bool × (List (ByteArray × Bool)) × (List ByteArray))))) (a0_4:(List Int)) (a1:TAct):Option Bool :=
  ifB (a1.Kind==1) ((m_club_books_isMember a0_0 a0_1 a0_2 a0_3 a0_4 a1.Who).bind fun y2=>some (!y2)) (ifB (a1.Kind==2) ((m_club_books_isMember a0_0 a0_1 a0_2 a0_3 a0_4 a1.Who).bind fun y3=>some y3) (ifB (a1.Kind==4) (optB (lkM a0_3 a1.Motion) (some true) (fun t7=>some false)) (ifB (a1.Kind==5) ((m_club_books_isMember a0_0 a0_1 a0_2 a0_3 a0_4 a1.Who).bind fun y15=>ifB y15 ((m_club_books_isOpen a0_0 a0_1 a0_2 a0_3 a0_4 a1.Motion).bind fun y16=>some y16) (some false)) (ifB (a1.Kind==6) ((m_club_books_isOpen a0_0 a0_1 a0_2 a0_3 a0_4 a1.Motion).bind fun y17=>some y17) (some true)))))
noncomputable def m_slices_Sorted_string__maps_Keys_map_string_club_stay_string_club_stay_1 (a0_c0_0:(List (ByteArray × (List Tclub_stay)))):Option (List ByteArray) :=
  if a0_c0_0.length≤1000000000 then m_slices_Sort_string_string (a0_c0_0.map Prod.fst) else none
def m_club_books_members_l1 (a0_0:Int) (a0_1:(List (ByteArray × (List Tclub_stay)))) (a0_2:(List (ByteArray × Int))) (a0_3:(List (ByteArray × (Bool × (List (ByteArray × Bool)) × (List ByteArray))))) (a0_4:(List Int)) (i4:Nat) (x5:ByteArray) (u8:(List ByteArray)):Option (Flow (List ByteArray) (List ByteArray)) :=
  (m_club_books_isMember a0_0 a0_1 a0_2 a0_3 a0_4 x5).bind fun y13=>ifB y13 ((appM 16 u8 [x5]).bind fun q15=>some (.nxt q15)) (some (.nxt u8))
def m_club_books_members (a0_0:Int) (a0_1:(List (ByteArray × (List Tclub_stay)))) (a0_2:(List (ByteArray × Int))) (a0_3:(List (ByteArray × (Bool × (List (ByteArray × Bool)) × (List ByteArray))))) (a0_4:(List Int)):Option (List ByteArray) :=
  (m_slices_Sorted_string__maps_Keys_map_string_club_stay_string_club_stay_1 a0_1).bind fun y2=>(rangeM (m_club_books_members_l1 a0_0 a0_1 a0_2 a0_3 a0_4) 0 y2 []).bind fun f11=>Flow.fin f11 fun u8=>some u8
def m_club_books_act (a0_0:Int) (a0_1:(List (ByteArray × (List Tclub_stay)))) (a0_2:(List (ByteArray × Int))) (a0_3:(List (ByteArray × (Bool × (List (ByteArray × Bool)) × (List ByteArray))))) (a0_4:(List Int)) (a1:TAct):Option ((List (ByteArray × (List Tclub_stay))) × (List (ByteArray × Int)) × (List (ByteArray × (Bool × (List (ByteArray × Bool)) × (List ByteArray))))) :=
  ifB (a1.Kind==1) ((appM 24 ((lkM a0_1 a1.Who).getD []) [(Tclub_stay.mk a1.At (-1) a1.Cents)]).bind fun q4=>some (putM a0_1 a1.Who q4,a0_2,a0_3)) (ifB (a1.Kind==2) ((getI ((lkM a0_1 a1.Who).getD []) (w64 ((((lkM a0_1 a1.Who).getD []).length:Int) - 1))).bind fun e13=>some (repM a0_1 a1.Who (((lkM a0_1 a1.Who).getD []).set ((w64 ((((lkM a0_1 a1.Who).getD []).length:Int) - 1)).toNat) (Tclub_stay.mk e13.since a1.At e13.cents)),a0_2,a0_3)) (ifB (a1.Kind==3) (some (a0_1,putM a0_2 a1.Who (w64 (((lkM a0_2 a1.Who).getD 0)+a1.Cents)),a0_3)) (ifB (a1.Kind==4) (some (a0_1,a0_2,putM a0_3 a1.Motion (false,([]:(List (ByteArray × Bool))),([]:List ByteArray)))) (ifB (a1.Kind==5) (optB (lkM a0_3 a1.Motion) (none) (fun t30=>some (a0_1,a0_2,repM a0_3 a1.Motion (t30.1,(putM t30.2.1 a1.Who a1.Yes),t30.2.2)))) (ifB (a1.Kind==6) (optB (lkM a0_3 a1.Motion) ((m_club_books_members a0_0 a0_1 a0_2 a0_3 a0_4).bind fun y45=>none) (fun t43=>(m_club_books_members a0_0 a0_1 a0_2 a0_3 a0_4).bind fun y53=>some (a0_1,a0_2,repM a0_3 a1.Motion (true,t43.2.1,y53)))) (some (a0_1,a0_2,a0_3)))))))
def m_club_booksAt_l1 (a0:(List TAct)) (a1:Int) (i7:Nat) (x8:Int) (u11:((List (ByteArray × (Bool × (List (ByteArray × Bool)) × (List ByteArray)))) × (List (ByteArray × Int)) × (List (ByteArray × (List Tclub_stay))) × (List Int))):Option (Flow ((List (ByteArray × (Bool × (List (ByteArray × Bool)) × (List ByteArray)))) × (List (ByteArray × Int)) × (List (ByteArray × (List Tclub_stay))) × (List Int)) (Int × (List (ByteArray × (List Tclub_stay))) × (List (ByteArray × Int)) × (List (ByteArray × (Bool × (List (ByteArray × Bool)) × (List ByteArray)))) × (List Int))) :=
  (getI a0 x8).bind fun e16=>(m_club_books_permits a1 u11.2.2.1 u11.2.1 u11.1 u11.2.2.2 e16).bind fun y17=>ifB y17 ((getI a0 x8).bind fun e18=>(m_club_books_act a1 u11.2.2.1 u11.2.1 u11.1 u11.2.2.2 e18).bind fun y19=>some (.nxt (y19.2.2,y19.2.1,y19.1,u11.2.2.2))) ((appM 8 u11.2.2.2 [x8]).bind fun q29=>some (.nxt (u11.1,u11.2.1,u11.2.2.1,q29)))
def m_club_booksAt (a0:(List TAct)) (a1:Int):Option (Int × (List (ByteArray × (List Tclub_stay))) × (List (ByteArray × Int)) × (List (ByteArray × (Bool × (List (ByteArray × Bool)) × (List ByteArray)))) × (List Int)) :=
  (m_club_counting a0 a1).bind fun y5=>(rangeM (m_club_booksAt_l1 a0 a1) 0 y5 ([],[],[],[])).bind fun f14=>Flow.fin f14 fun u11=>some (a1,u11.2.2.1,u11.2.1,u11.1,u11.2.2.2)
def m_club_checkedAt (a0:(List TAct)) (a1:Int):Option ((Option (Int × (List (ByteArray × (List Tclub_stay))) × (List (ByteArray × Int)) × (List (ByteArray × (Bool × (List (ByteArray × Bool)) × (List ByteArray)))) × (List Int))) × Int) :=
  (m_club_askedFault a0 a1).bind fun y1=>ifB (y1 != 0) (some (none,y1)) ((m_club_booksAt a0 a1).bind fun y2=>some (some (y2.1,y2.2.1,y2.2.2.1,y2.2.2.2.1,y2.2.2.2.2),0))
def m_club_Members (a0:(List TAct)) (a1:Int):Option ((List ByteArray) × Int) :=
  (m_club_checkedAt a0 a1).bind fun y1=>optB y1.1 (ifB (y1.2 != 0) (some ([],y1.2)) (none)) (fun t2=>ifB (y1.2 != 0) (some ([],y1.2)) ((m_club_books_members t2.1 t2.2.1 t2.2.2.1 t2.2.2.2.1 t2.2.2.2.2).bind fun y33=>some (y33,0)))
def m_gleekeep2_errs_l1  (i1:Nat) (x2:Int) (u4:Unit):Option (Flow Unit Int) :=
  ifB (x2 != 0) (some (.ret x2)) (some (.nxt ()))
def m_gleekeep2_errs (a0:(List Int)):Option Int :=
  (rangeM m_gleekeep2_errs_l1 0 a0 ()).bind fun f7=>Flow.fin f7 fun u4=>some 0
def m_gleekeep2_ready  : Option Bool :=
  (m_piece_Order [(TBar.mk 1 4 2 0 true)]).bind fun y2=>(m_chord_Name (TChord.mk 1 2 1)).bind fun y4=>(m_rehearse_There [(TCame.mk 5 (ByteArray.mk [97,110,110].toArray) false)] 6).bind fun y6=>(m_concert_Long (TProgram.mk [(TItem.mk (ByteArray.mk [97].toArray) (ByteArray.mk [112].toArray) 7 [(ByteArray.mk [97,108,116,111].toArray)])] 0 0 0 (-1))).bind fun y10=>(m_club_Members [(TAct.mk (ByteArray.mk [97].toArray) 1 0 1 (ByteArray.mk [97,110,110].toArray) ByteArray.empty 0 false ByteArray.empty 0)] 0).bind fun y12=>(m_gleekeep2_errs [y2.2,y4.2,y6.2,y10.2,y12.2]).bind fun y15=>ifB (y15==0) (ifB ((y2.1.length:Int)==2) (ifB (y4.1.toList==(ByteArray.mk [99,35,32,109,105,110,47,49].toArray).toList) (ifB ((y6.1.length:Int)==1) (ifB (y10.1==7) (some ((y12.1.length:Int)==1)) (some false)) (some false)) (some false)) (some false)) (some false)
def m_gleekeep2_PiecesStay_l3  (i72:Nat) (x73:TEdit) (u75:(List TEdit)):Option (Flow (List TEdit) Bool) :=
  (getI u75 (i72:Int)).bind fun e80=>(m_gleekeep2_spoil_api_Tone e80.Tones).bind fun y83=>some (.nxt (u75.set ((i72:Int).toNat) (TEdit.mk e80.By e80.No e80.At e80.Part e80.Bar y83)))
def m_gleekeep2_PiecesStay_l2  (i53:Nat) (x54:(List TTone)) (u56:(List (List TTone))):Option (Flow (List (List TTone)) Bool) :=
  (getI u56 (i53:Int)).bind fun e61=>(m_gleekeep2_spoil_api_Tone e61).bind fun y64=>some (.nxt (u56.set ((i53:Int).toNat) y64))
def m_gleekeep2_PiecesStay_l1  (i36:Nat) (x37:(List TTone)) (u39:(List (List TTone))):Option (Flow (List (List TTone)) Bool) :=
  (getI u39 (i36:Int)).bind fun e44=>(m_gleekeep2_spoil_api_Tone e44).bind fun y47=>some (.nxt (u39.set ((i36:Int).toNat) y47))
def m_gleekeep2_PiecesStay (a0:(List Int)):Option Bool :=
  (m_gleemake_Stream_RightBars a0 0).bind fun y3=>(m_gleemake_Stream_RightBars a0 0).bind fun y5=>(m_gleemake_Stream_TonesFor a0 y3.2 y3.1).bind fun y7=>(m_gleemake_Stream_TonesFor a0 y5.2 y5.1).bind fun y9=>(m_gleemake_Stream_Edits a0 y7.2 y3.1 5).bind fun y11=>(m_gleemake_Stream_Edits a0 y9.2 y5.1 5).bind fun y14=>(m_piece_Played y3.1 y7.1).bind fun y17=>(m_gleekeep2_first_api_Tone y17.1 y17.2).bind fun y19=>(m_piece_Joined y3.1 y7.1).bind fun y21=>(m_gleekeep2_first_api_Tone y21.1 y21.2).bind fun y23=>(m_piece_Shift y3.1 y7.1 1).bind fun y25=>(m_gleekeep2_first_api_Tone y25.1 y25.2).bind fun y27=>(m_piece_Written y3.1 [(ByteArray.mk [97,108,116,111].toArray),(ByteArray.mk [98,97,115,115].toArray)] y11.1 (ByteArray.mk [97,108,116,111].toArray) 20).bind fun y30=>(m_gleekeep2_first_api_Tone y30.1 y30.2).bind fun y32=>(rangeM m_gleekeep2_PiecesStay_l1 0 [y19,y23,y27,y32] [y19,y23,y27,y32]).bind fun f42=>Flow.fin f42 fun u39=>(m_piece_InBars y3.1 y7.1).bind fun y50=>(rangeM m_gleekeep2_PiecesStay_l2 0 y50.1 y50.1).bind fun f59=>Flow.fin f59 fun u56=>(m_piece_Merge y3.1 [(ByteArray.mk [97,108,116,111].toArray),(ByteArray.mk [98,97,115,115].toArray)] y11.1 []).bind fun y69=>(rangeM m_gleekeep2_PiecesStay_l3 0 y69.1 y69.1).bind fun f78=>Flow.fin f78 fun u75=>(m_slices_Equal_api_Bar_api_Bar y3.1 y5.1).bind fun y86=>ifB y86 ((m_slices_Equal_api_Tone_api_Tone y7.1 y9.1).bind fun y87=>ifB y87 ((m_slices_EqualFunc_api_Edit_api_Edit_api_Edit_api_Edit__gleeref2_SameEdit y11.1 y14.1).bind fun y88=>ifB y88 (m_gleekeep2_ready.bind fun y89=>some y89) (some false)) (some false)) (some false)
end
end Go.G
