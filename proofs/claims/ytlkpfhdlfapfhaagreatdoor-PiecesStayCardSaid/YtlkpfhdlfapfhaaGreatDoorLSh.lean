/- LSh: models that this row does not reach, as laws that serve other rows too name them. Written by program. -/
import Derived.Test.YtlkpfhdlfapfhaaGreatDoorM
namespace Go.G
open Go Go.J
set_option linter.unusedVariables false
noncomputable section
def m_gleeref2_in (a0:Int) (a1:Int) (a2:Int):Option Bool :=
 ifB (decide (a1≤a0)) (some (decide (a0≤a2))) (some false)
def m_gleeref2_OrderOf_l4 (a0:(List TBar)) (u11:Int) (u16:(Int × (List Int))) (u22:(Int × (List Int))):Option (Flow (Int × (List Int)) (Flow (Int × (List Int)) (Flow (Int × (List Int)) (List Int)))) :=
 ifB (decide (u22.1≤u11)) (((getI a0 u22.1).bind fun e30=>ifB (e30.Ending==0) (some (.inl true)) ((getI a0 u22.1).bind fun e31=>some (.inl (e31.Ending==u16.1))):Option (Bool ⊕ (Flow (Int × (List Int)) (Flow (Int × (List Int)) (Flow (Int × (List Int)) (List Int)))))).bind fun k29=>Sum.fin k29 fun u27=>ifB u27 ((appM 8 u22.2 [u22.1]).bind fun q33=>some (.nxt (w64 (u22.1+1),q33))) (some (.nxt (w64 (u22.1+1),u22.2)))) (some (.brk (u22.1,u22.2)))
def m_gleeref2_OrderOf_l3 (a0:(List TBar)) (u11:Int) (u2:(Int × (List Int))) (u16:(Int × (List Int))):Option (Flow (Int × (List Int)) (Flow (Int × (List Int)) (List Int))) :=
 (getI a0 u11).bind fun e21=>ifB (decide (u16.1≤e21.Close)) ((loopM (m_gleeref2_OrderOf_l4 a0 u11 u16) (u2.1,u16.2)).bind fun f25=>Flow.fin f25 fun u22=>some (.nxt (w64 (u16.1+1),u22.2))) (some (.brk (u16.1,u16.2)))
def m_gleeref2_OrderOf_l2 (a0:(List TBar)) (u11:Int):Option (Flow Int (Flow (Int × (List Int)) (List Int))) :=
 (getI a0 u11).bind fun e15=>ifB (e15.Close==0) (some (.nxt (w64 (u11+1)))) (some (.brk u11))
def m_gleeref2_OrderOf_l1 (a0:(List TBar)) (u2:(Int × (List Int))):Option (Flow (Int × (List Int)) (List Int)) :=
 ifB (decide (u2.1<(a0.length:Int))) ((getI a0 u2.1).bind fun e7=>ifB (!e7.Open) ((appM 8 u2.2 [u2.1]).bind fun q9=>some (.nxt (w64 (u2.1+1),q9))) ((loopM (m_gleeref2_OrderOf_l2 a0) u2.1).bind fun f14=>Flow.fin f14 fun u11=>(loopM (m_gleeref2_OrderOf_l3 a0 u11 u2) (1,u2.2)).bind fun f19=>Flow.fin f19 fun u16=>some (.nxt (w64 (u11+1),u16.2)))) (some (.brk (u2.1,u2.2)))
def m_gleeref2_OrderOf (a0:(List TBar)):Option (List Int) :=
 (loopM (m_gleeref2_OrderOf_l1 a0) (0,[])).bind fun f5=>Flow.fin f5 fun u2=>some u2.2
def m_gleeref2_BarsFault_l1  (i1:Nat) (x2:TBar) (u4:(Bool × Int × Int × Bool)):Option (Flow (Bool × Int × Int × Bool) Int) :=
 ((m_gleeref2_in x2.Beats 1 16).bind fun y12=>ifB (!y12) (some (.inl true)) ((m_slices_Contains_int_int [1,2,4,8,16] x2.Unit).bind fun y14=>ifB (!y14) (some (.inl true)) (ifB (x2.Close != 0) ((m_gleeref2_in x2.Close 2 9).bind fun y15=>ifB (!y15) (some (.inl true)) ((m_gleeref2_in x2.Ending 0 9).bind fun y16=>some (.inl (!y16)))) ((m_gleeref2_in x2.Ending 0 9).bind fun y17=>some (.inl (!y17))))):Option (Bool ⊕ (Flow (Bool × Int × Int × Bool) Int))).bind fun k11=>Sum.fin k11 fun u9=>ifB u9 (some (.ret 1)) ((ifB x2.Open (ifB u4.1 (some (.inr (.ret 16))) (some (.inl (true,0,0)))) (some (.inl (u4.1,u4.2.1,u4.2.2.1))):Option ((Bool × Int × Int) ⊕ (Flow (Bool × Int × Int × Bool) Int))).bind fun k20=>Sum.fin k20 fun u18=>(ifB (!u18.1) (ifB (x2.Close != 0) (some (.inl true)) (ifB (x2.Ending != 0) (some (.inl true)) (ifB u18.1 (some (.inl (decide (x2.Ending<u18.2.1)))) (some (.inl false))))) (ifB u18.1 (some (.inl (decide (x2.Ending<u18.2.1)))) (some (.inl false))):Option (Bool ⊕ (Flow (Bool × Int × Int × Bool) Int))).bind fun k23=>Sum.fin k23 fun u21=>ifB u21 (some (.ret 16)) ((ifB u18.1 (some (.inl (x2.Ending,max u18.2.2 x2.Ending))) (some (.inl (u18.2.1,u18.2.2))):Option ((Int × Int) ⊕ (Flow (Bool × Int × Int × Bool) Int))).bind fun k26=>Sum.fin k26 fun u24=>ifB (x2.Close != 0) (ifB u4.2.2.2 (some (.nxt (false,u24.1,u24.2,true))) (some (.nxt (false,u24.1,u24.2,decide (u24.2>x2.Close))))) (some (.nxt (u18.1,u24.1,u24.2,u4.2.2.2)))))
def m_gleeref2_BarsFault (a0:(List TBar)):Option Int :=
 ifB ((a0.length:Int)==0) (some 8) (ifB (decide ((a0.length:Int)>300)) (some 2) ((rangeM m_gleeref2_BarsFault_l1 0 a0 (false,0,0,false)).bind fun f7=>Flow.fin f7 fun u4=>(ifB u4.1 (some (.inl true)) (some (.inl u4.2.2.2)):Option (Bool ⊕ Int)).bind fun k29=>Sum.fin k29 fun u27=>ifB u27 (some 16) ((m_gleeref2_OrderOf a0).bind fun y30=>ifB (decide ((y30.length:Int)>2000)) (some 2) (some 0))))
def m_gleeref2_only_l1 (a0:ByteArray) (a1:ByteArray) (i1:Nat) (x2:Nat) (u4:Unit):Option (Flow Unit Bool) :=
 (strI a0 (i1:Int)).bind fun c8=>(m_strings_IndexByte a1 c8).bind fun y9=>ifB (decide (y9<0)) (some (.ret false)) (some (.nxt ()))
def m_gleeref2_only (a0:ByteArray) (a1:ByteArray):Option Bool :=
 (rangeI (a0.size:Int)).bind fun L10=>(rangeM (m_gleeref2_only_l1 a0 a1) 0 L10 ()).bind fun f7=>Flow.fin f7 fun u4=>some true
def m_gleeref2_Key (a0:ByteArray):Option Bool :=
 (m_gleeref2_in (a0.size:Int) 1 40).bind fun y1=>ifB y1 ((strS a0 0 1).bind fun c2=>(m_gleeref2_only c2 (ByteArray.mk [97,98,99,100,101,102,103,104,105,106,107,108,109,110,111,112,113,114,115,116,117,118,119,120,121,122].toArray)).bind fun y3=>ifB y3 ((m_gleeref2_only a0 (ByteArray.mk [97,98,99,100,101,102,103,104,105,106,107,108,109,110,111,112,113,114,115,116,117,118,119,120,121,122,48,49,50,51,52,53,54,55,56,57,45,95].toArray)).bind fun y4=>some y4) (some false)) (some false)
def m_gleeref2_Rising_l1 (a0:(List ByteArray)) (i1:Nat) (x2:ByteArray) (u4:Unit):Option (Flow Unit Int) :=
 (m_gleeref2_Key x2).bind fun y8=>ifB (!y8) (some (.ret 5)) ((ifB (decide ((i1:Int)>0)) ((getI a0 (w64 ((i1:Int) - 1))).bind fun e12=>some (.inl (Op.bytesLess x2.toList e12.toList||x2.toList==e12.toList))) (some (.inl false)):Option (Bool ⊕ (Flow Unit Int))).bind fun k11=>Sum.fin k11 fun u9=>ifB u9 (some (.ret 7)) (some (.nxt ())))
def m_gleeref2_Rising (a0:(List ByteArray)):Option Int :=
 (rangeM (m_gleeref2_Rising_l1 a0) 0 a0 ()).bind fun f7=>Flow.fin f7 fun u4=>some 0
def m_gleeref2_PartsFault (a0:(List TBar)) (a1:(List ByteArray)):Option Int :=
 (m_gleeref2_BarsFault a0).bind fun y1=>ifB (y1 != 0) (some y1) (ifB (decide ((a1.length:Int)>12)) (some 2) ((m_gleeref2_Rising a1).bind fun y2=>some y2))
def m_gleeref2_Moment (a0:Int):Option Bool :=
 (m_gleeref2_in a0 0 345686399999).bind fun y1=>some y1
def m_gleeref2_textFault_l1 (a0:ByteArray) (i5:Nat) (x6:Nat) (u8:Unit):Option (Flow Unit Bool) :=
 ((strI a0 (i5:Int)).bind fun c15=>ifB (decide (c15<33)) (some (.inl true)) ((strI a0 (i5:Int)).bind fun c16=>ifB (c16==127) (some (.inl true)) ((strI a0 (i5:Int)).bind fun c17=>some (.inl (c17==124)))):Option (Bool ⊕ (Flow Unit Bool))).bind fun k14=>Sum.fin k14 fun u12=>ifB u12 (some (.ret true)) (some (.nxt ()))
def m_gleeref2_textFault (a0:ByteArray):Option Bool :=
 ((m_utf8_ValidString a0).bind fun y4=>ifB (!y4) (some (.inl true)) (some (.inl (decide ((a0.size:Int)>20)))):Option (Bool ⊕ Bool)).bind fun k3=>Sum.fin k3 fun u1=>ifB u1 (some true) ((rangeI (a0.size:Int)).bind fun L18=>(rangeM (m_gleeref2_textFault_l1 a0) 0 L18 ()).bind fun f11=>Flow.fin f11 fun u8=>some false)
def m_gleeref2_toneFault (a0:TTone):Option Int :=
 (ifB (a0.Note != (-1)) ((m_gleeref2_in a0.Note 0 127).bind fun y5=>some (.inl (!y5))) (some (.inl false)):Option (Bool ⊕ Int)).bind fun k4=>Sum.fin k4 fun u2=>ifB u2 (some 1) ((ifB (decide (a0.Long.Num<1)) (some (.inl true)) (ifB (decide (a0.Long.Den<1)) (some (.inl true)) ((m_gleeref2_divisor a0.Long.Num a0.Long.Den).bind fun y9=>some (.inl (y9 != 1)))):Option (Bool ⊕ Int)).bind fun k8=>Sum.fin k8 fun u6=>ifB u6 (some 3) (((remM 192 a0.Long.Den).bind fun z13=>ifB (z13 != 0) (some (.inl true)) (some (.inl (decide (a0.Long.Num>(w64 (16*a0.Long.Den)))))):Option (Bool ⊕ Int)).bind fun k12=>Sum.fin k12 fun u10=>ifB u10 (some 1) ((m_gleeref2_textFault a0.Text).bind fun y14=>ifB y14 (some 3) ((ifB (a0.Note==(-1)) (ifB a0.Tied (some (.inl true)) (some (.inl (!(a0.Text.toList==ByteArray.empty.toList))))) (some (.inl false)):Option (Bool ⊕ Int)).bind fun k17=>Sum.fin k17 fun u15=>ifB u15 (some 16) (some 0)))))
def m_gleeref2_barUnits (a0:TBar):Option Int :=
 (quoM (w64 (a0.Beats*192)) a0.Unit).bind fun z2=>some z2
def m_gleeref2_units (a0:TFraction):Option Int :=
 (quoM 192 a0.Den).bind fun z2=>some (w64 (a0.Num*z2))
def m_gleeref2_tiesTo (a0:TTone) (a1:TTone):Option Bool :=
 ifB (a0.Note==a1.Note) (some (a1.Text.toList==ByteArray.empty.toList)) (some false)
def m_gleeref2_fillFault_l2 (a1:(List TTone)) (a2:Bool) (i19:Nat) (x20:TTone) (u22:Unit):Option (Flow Unit Int) :=
 ifB x20.Tied (ifB ((i19:Int)==(w64 ((a1.length:Int) - 1))) (ifB (!a2) (some (.ret 16)) (ifB (!((i19:Int)==(w64 ((a1.length:Int) - 1)))) ((getI a1 (min (w64 ((i19:Int)+1)) (w64 ((a1.length:Int) - 1)))).bind fun e27=>(m_gleeref2_tiesTo x20 e27).bind fun y28=>ifB (!y28) (some (.ret 16)) (some (.nxt ()))) (some (.nxt ())))) (ifB (!((i19:Int)==(w64 ((a1.length:Int) - 1)))) ((getI a1 (min (w64 ((i19:Int)+1)) (w64 ((a1.length:Int) - 1)))).bind fun e29=>(m_gleeref2_tiesTo x20 e29).bind fun y30=>ifB (!y30) (some (.ret 16)) (some (.nxt ()))) (some (.nxt ())))) (some (.nxt ()))
def m_gleeref2_fillFault_l1 (a0:(List TBar)) (i1:Nat) (x2:TTone) (u4:(Int × Int)):Option (Flow (Int × Int) Int) :=
 (m_gleeref2_toneFault x2).bind fun y9=>ifB (y9 != 0) (some (.ret y9)) ((ifB (u4.2==0) (ifB ((w64 (u4.1+1))==(a0.length:Int)) (some (.inr (.ret 16))) ((getI a0 (w64 (u4.1+1))).bind fun e13=>(m_gleeref2_barUnits e13).bind fun y14=>some (.inl (w64 (u4.1+1),y14)))) (some (.inl (u4.1,u4.2))):Option ((Int × Int) ⊕ (Flow (Int × Int) Int))).bind fun k12=>Sum.fin k12 fun u10=>(m_gleeref2_units x2.Long).bind fun y15=>ifB (decide ((w64 (u10.2 - y15))<0)) (some (.ret 16)) (some (.nxt (u10.1,w64 (u10.2 - y15)))))
def m_gleeref2_fillFault (a0:(List TBar)) (a1:(List TTone)) (a2:Bool):Option Int :=
 ifB (decide ((a1.length:Int)>2000)) (some 2) ((rangeM (m_gleeref2_fillFault_l1 a0) 0 a1 ((-1),0)).bind fun f7=>Flow.fin f7 fun u4=>(ifB (u4.2 != 0) (some (.inl true)) (some (.inl (u4.1 != (w64 ((a0.length:Int) - 1))))):Option (Bool ⊕ Int)).bind fun k18=>Sum.fin k18 fun u16=>ifB u16 (some 3) ((rangeM (m_gleeref2_fillFault_l2 a1 a2) 0 a1 ()).bind fun f25=>Flow.fin f25 fun u22=>some 0))
def m_gleeref2_sameNo (a0:TEdit) (a1:TEdit):Option Bool :=
 ifB (a0.By.toList==a1.By.toList) (some (a0.No==a1.No)) (some false)
def m_gleeref2_EditsFault_1 (a0:TEdit) (a1_0:ByteArray) (a1_1:Int) (a1_2:Int) (a1_3:ByteArray) (a1_4:Int) (a1_5:(List TTone)):Option Bool :=
 (m_gleeref2_sameNo a0 (TEdit.mk a1_0 a1_1 a1_2 a1_3 a1_4 a1_5)).bind fun y2=>some y2
def m_slices_IndexFunc_api_Edit_api_Edit__gleeref2_EditsFault_1_l1 (a1_c0_0:ByteArray) (a1_c0_1:Int) (a1_c0_2:Int) (a1_c0_3:ByteArray) (a1_c0_4:Int) (a1_c0_5:(List TTone)) (i1:Nat) (x2:TEdit) (u4:Unit):Option (Flow Unit Int) :=
 (m_gleeref2_EditsFault_1 x2 a1_c0_0 a1_c0_1 a1_c0_2 a1_c0_3 a1_c0_4 a1_c0_5).bind fun y8=>ifB y8 (some (.ret (i1:Int))) (some (.nxt ()))
def m_slices_IndexFunc_api_Edit_api_Edit__gleeref2_EditsFault_1 (a0:(List TEdit)) (a1_c0_0:ByteArray) (a1_c0_1:Int) (a1_c0_2:Int) (a1_c0_3:ByteArray) (a1_c0_4:Int) (a1_c0_5:(List TTone)):Option Int :=
 (rangeM (m_slices_IndexFunc_api_Edit_api_Edit__gleeref2_EditsFault_1_l1 a1_c0_0 a1_c0_1 a1_c0_2 a1_c0_3 a1_c0_4 a1_c0_5) 0 a0 ()).bind fun f7=>Flow.fin f7 fun u4=>some (-1)
def m_slices_ContainsFunc_api_Edit_api_Edit__gleeref2_EditsFault_1 (a0:(List TEdit)) (a1_c0_0:ByteArray) (a1_c0_1:Int) (a1_c0_2:Int) (a1_c0_3:ByteArray) (a1_c0_4:Int) (a1_c0_5:(List TTone)):Option Bool :=
 (m_slices_IndexFunc_api_Edit_api_Edit__gleeref2_EditsFault_1 a0 a1_c0_0 a1_c0_1 a1_c0_2 a1_c0_3 a1_c0_4 a1_c0_5).bind fun y1=>some (decide (y1≥0))
def m_gleeref2_EditsFault_l2 (a2:(List TEdit)) (i22:Nat) (x23:TEdit) (u25:Unit):Option (Flow Unit Int) :=
 (sliceI a2 0 (i22:Int)).bind fun q30=>(m_slices_ContainsFunc_api_Edit_api_Edit__gleeref2_EditsFault_1 q30 x23.By x23.No x23.At x23.Part x23.Bar x23.Tones).bind fun y31=>ifB y31 (some (.ret 6)) (some (.nxt ()))
def m_gleeref2_EditsFault_l1 (a0:(List TBar)) (a1:(List ByteArray)) (a2:(List TEdit)) (i2:Nat) (x3:TEdit) (u5:Unit):Option (Flow Unit Int) :=
 (m_gleeref2_Key x3.By).bind fun y10=>ifB (!y10) (some (.ret 5)) (((m_gleeref2_in x3.No 1 1000000).bind fun y14=>ifB (!y14) (some (.inl true)) ((m_gleeref2_Moment x3.At).bind fun y15=>some (.inl (!y15))):Option (Bool ⊕ (Flow Unit Int))).bind fun k13=>Sum.fin k13 fun u11=>ifB u11 (some (.ret 1)) ((m_slices_Contains_string_string a1 x3.Part).bind fun y16=>ifB (!y16) (some (.ret 8)) ((m_gleeref2_in x3.Bar 0 (w64 ((a0.length:Int) - 1))).bind fun y17=>ifB (!y17) (some (.ret 1)) ((sliceI a0 x3.Bar (w64 (x3.Bar+1))).bind fun q18=>(m_gleeref2_fillFault q18 x3.Tones true).bind fun y19=>ifB (y19 != 0) (some (.ret y19)) (ifB (decide ((i2:Int)>0)) ((getI a2 (w64 ((i2:Int) - 1))).bind fun e20=>(m_gleeref2_EditOrder e20 x3).bind fun y21=>ifB (decide (y21≥0)) (some (.ret 7)) (some (.nxt ()))) (some (.nxt ())))))))
def m_gleeref2_EditsFault (a0:(List TBar)) (a1:(List ByteArray)) (a2:(List TEdit)):Option Int :=
 (m_gleeref2_PartsFault a0 a1).bind fun y1=>ifB (y1 != 0) (some y1) (ifB (decide ((a2.length:Int)>1000)) (some 2) ((rangeM (m_gleeref2_EditsFault_l1 a0 a1 a2) 0 a2 ()).bind fun f8=>Flow.fin f8 fun u5=>(rangeM (m_gleeref2_EditsFault_l2 a2) 0 a2 ()).bind fun f28=>Flow.fin f28 fun u25=>some 0))
def m_gleeref2_untied_l1  (i1:Nat) (x2:TTone) (u4:(List TTone)):Option (Flow (List TTone) ((List TTone) × (List TTone))) :=
 ifB ((i1:Int)==(w64 ((u4.length:Int) - 1))) ((getI u4 (i1:Int)).bind fun e8=>some (.nxt (u4.set ((i1:Int).toNat) (TTone.mk e8.Note e8.Long e8.Text false)))) ((getI u4 (i1:Int)).bind fun e9=>(getI u4 (w64 ((i1:Int)+1))).bind fun e10=>(m_gleeref2_tiesTo e9 e10).bind fun y11=>ifB (!y11) ((getI u4 (i1:Int)).bind fun e12=>some (.nxt (u4.set ((i1:Int).toNat) (TTone.mk e12.Note e12.Long e12.Text false)))) (some (.nxt u4)))
def m_gleeref2_untied (a0:(List TTone)):Option ((List TTone) × (List TTone)) :=
 (rangeM m_gleeref2_untied_l1 0 a0 a0).bind fun f7=>Flow.fin f7 fun u4=>some (u4,u4)
def m_gleeref2_WrittenOf_l2 (a2:ByteArray) (a3:Int) (i1:Nat) (i14:Nat) (x15:TEdit) (u17:(List TTone)):Option (Flow (List TTone) (Flow (List TTone) ((List TTone) × Int))) :=
 (ifB (x15.Part.toList==a2.toList) (ifB (x15.Bar==(i1:Int)) (some (.inl (decide (x15.At≤a3)))) (some (.inl false))) (some (.inl false)):Option (Bool ⊕ (Flow (List TTone) (Flow (List TTone) ((List TTone) × Int))))).bind fun k25=>Sum.fin k25 fun u23=>ifB u23 (some (.nxt x15.Tones)) (some (.nxt u17))
def m_gleeref2_WrittenOf_l1 (a1:(List TEdit)) (a2:ByteArray) (a3:Int) (i1:Nat) (x2:TBar) (u5:(List TTone)):Option (Flow (List TTone) ((List TTone) × Int)) :=
 (m_gleeref2_barUnits x2).bind fun y11=>(m_gleeref2_Lowest y11 192).bind fun y12=>(rangeM (m_gleeref2_WrittenOf_l2 a2 a3 i1) 0 a1 [(TTone.mk (-1) y12 ByteArray.empty false)]).bind fun f20=>Flow.fin f20 fun u17=>(appM 48 u5 u17).bind fun q28=>some (.nxt q28)
def m_gleeref2_WrittenOf (a0:(List TBar)) (a1:(List TEdit)) (a2:ByteArray) (a3:Int):Option ((List TTone) × Int) :=
 (rangeM (m_gleeref2_WrittenOf_l1 a1 a2 a3) 0 a0 []).bind fun f8=>Flow.fin f8 fun u5=>ifB (decide ((u5.length:Int)>2000)) (some ([],2)) ((m_gleeref2_untied u5).bind fun y32=>some (y32.1,0))
def m_gleeref2_TonesFault (a0:(List TBar)) (a1:(List TTone)):Option Int :=
 (m_gleeref2_BarsFault a0).bind fun y1=>ifB (y1 != 0) (some y1) ((m_gleeref2_fillFault a0 a1 false).bind fun y2=>some y2)
def m_gleeref2_InBarsOf_l2 (u5:((List TTone) × (List (List TTone)))) (u13:(Int × Int)):Option (Flow (Int × Int) (Flow ((List TTone) × (List (List TTone))) (List (List TTone)))) :=
 ifB (decide (u13.2>0)) ((getI u5.1 u13.1).bind fun e17=>(m_gleeref2_units e17.Long).bind fun y18=>some (.nxt (w64 (u13.1+1),w64 (u13.2 - y18)))) (some (.brk (u13.1,u13.2)))
def m_gleeref2_InBarsOf_l1  (i1:Nat) (x2:TBar) (u5:((List TTone) × (List (List TTone)))):Option (Flow ((List TTone) × (List (List TTone))) (List (List TTone))) :=
 (m_gleeref2_barUnits x2).bind fun y12=>(loopM (m_gleeref2_InBarsOf_l2 u5) (0,y12)).bind fun f16=>Flow.fin f16 fun u13=>(sliceI u5.1 0 u13.1).bind fun q19=>(m_slices_Clone_api_Tone_api_Tone q19).bind fun y20=>(appM 24 u5.2 [y20]).bind fun q23=>(sliceI u5.1 u13.1 (u5.1.length:Int)).bind fun q26=>some (.nxt (q26,q23))
def m_gleeref2_InBarsOf (a0:(List TBar)) (a1:(List TTone)):Option (List (List TTone)) :=
 (rangeM m_gleeref2_InBarsOf_l1 0 a0 (a1,[])).bind fun f8=>Flow.fin f8 fun u5=>some u5.2
def m_gleeref2_PlayedOf_l1 (y1:(List (List TTone))) (i6:Nat) (x7:Int) (u10:(List TTone)):Option (Flow (List TTone) (List TTone)) :=
 (getI y1 x7).bind fun e15=>(appM 48 u10 e15).bind fun q16=>some (.nxt q16)
def m_gleeref2_PlayedOf (a0:(List TBar)) (a1:(List TTone)):Option (List TTone) :=
 (m_gleeref2_InBarsOf a0 a1).bind fun y1=>(m_gleeref2_OrderOf a0).bind fun y4=>(rangeM (m_gleeref2_PlayedOf_l1 y1) 0 y4 []).bind fun f13=>Flow.fin f13 fun u10=>(m_gleeref2_untied u10).bind fun y19=>some y19.1
def m_gleeref2_ShiftOf_l1 (a1:Int) (i5:Nat) (x6:TTone) (u8:(List TTone)):Option (Flow (List TTone) ((List TTone) × Int)) :=
 (getI u8 (i5:Int)).bind fun e13=>ifB (e13.Note==(-1)) (some (.nxt u8)) ((getI u8 (i5:Int)).bind fun e14=>(getI u8 (i5:Int)).bind fun e15=>(getI (u8.set ((i5:Int).toNat) (TTone.mk (w64 (e14.Note+a1)) e15.Long e15.Text e15.Tied)) (i5:Int)).bind fun e16=>(m_gleeref2_in e16.Note 0 127).bind fun y17=>ifB (!y17) (some (.ret ([],16))) (some (.nxt (u8.set ((i5:Int).toNat) (TTone.mk (w64 (e14.Note+a1)) e15.Long e15.Text e15.Tied)))))
def m_gleeref2_ShiftOf (a0:(List TTone)) (a1:Int):Option ((List TTone) × Int) :=
 (m_gleeref2_in a1 (-127) 127).bind fun y1=>ifB (!y1) (some ([],1)) ((m_slices_Clone_api_Tone_api_Tone a0).bind fun y3=>(rangeM (m_gleeref2_ShiftOf_l1 a1) 0 y3 y3).bind fun f11=>Flow.fin f11 fun u8=>some (u8,0))
end
end Go.G
