/- The models. Written by program. -/
import Derived.Test.YtlkpfhdlfapfhacGreatDoorXM
namespace Go.G
open Go Go.J
set_option linter.unusedVariables false
noncomputable section
structure Tgleemake_Stream where
  L:(List Int)
  at_:Int
  deriving DecidableEq,Inhabited
structure TRange where
  Low:Int
  High:Int
  deriving DecidableEq,Inhabited
structure TChord where
  Root:Int
  Kind:Int
  Turn:Int
  deriving DecidableEq,Inhabited
structure TFollow where
  From:Int
  To:Int
  Up:Int
  deriving DecidableEq,Inhabited
structure Tchord_finder where
  c:TChord
  r:(List TRange)
  tones:(List Int)
  rows:(List (List Int))
  deriving DecidableEq,Inhabited
structure TBar where
  Beats:Int
  Unit:Int
  Close:Int
  Ending:Int
  Open:Bool
  deriving DecidableEq,Inhabited
structure TCame where
  At:Int
  Singer:ByteArray
  Left:Bool
  deriving DecidableEq,Inhabited
structure TItem where
  Key:ByteArray
  Places:ByteArray
  Long:Int
  Parts:(List ByteArray)
  deriving DecidableEq,Inhabited
structure TProgram where
  Items:(List TItem)
  Change:Int
  Clap:Int
  Break:Int
  Half:Int
  deriving DecidableEq,Inhabited
structure TAct where
  Site:ByteArray
  No:Int
  At:Int
  Kind:Int
  Who:ByteArray
  Motion:ByteArray
  Cents:Int
  Yes:Bool
  Of:ByteArray
  Other:Int
  deriving DecidableEq,Inhabited
structure TFault where
  At:Int
  Kind:Int
  Low:Int
  High:Int
  deriving DecidableEq,Inhabited
structure TWindow where
  From:Int
  To:Int
  deriving DecidableEq,Inhabited
structure Tpiece_repeat where
  from_:Int
  to_:Int
  times:Int
  deriving DecidableEq,Inhabited
structure Tclub_stay where
  since:Int
  till:Int
  cents:Int
  deriving DecidableEq,Inhabited
structure Tclub_own where
  site:ByteArray
  no:Int
  deriving DecidableEq,Inhabited
structure Tclub_uses where
  who:Bool
  motion:Bool
  cents:Bool
  yes:Bool
  undo:Bool
  deriving DecidableEq,Inhabited
def m_gleemake_Below (a0:Int) (a1:Int):Option Int :=
  ifB (decide (a1<1)) (some 0) ((remM a0 a1).bind fun z1=>ifB (decide (z1<0)) (some (w64 (z1+a1))) (some z1))
def m_gleemake_Stream_Next (a0_0:(List Int)) (a0_1:Int) (a1:Int):Option (Int × Int) :=
  ifB ((a0_0.length:Int)==0) ((m_gleemake_Below (w64 ((w64 (a0_1+1))*7919)) a1).bind fun y1=>some (y1,w64 (a0_1+1))) ((remM (w64 ((w64 (a0_1+1)) - 1)) (a0_0.length:Int)).bind fun z2=>(quoM (w64 ((w64 (a0_1+1)) - 1)) (a0_0.length:Int)).bind fun z3=>(getI a0_0 z2).bind fun e4=>(m_gleemake_Below e4 1073741824).bind fun y5=>(m_gleemake_Below (w64 (y5+(w64 (z3*(w64 (7919+z2)))))) a1).bind fun y6=>some (y6,w64 (a0_1+1)))
def m_gleemake_Stream_Range (a0_0:(List Int)) (a0_1:Int) (a1:Int) (a2:Int):Option (Int × Int) :=
  ifB (decide (a2<a1)) (some (a1,a0_1)) ((m_gleemake_Stream_Next a0_0 a0_1 (w64 ((w64 (a2 - a1))+1))).bind fun y1=>some (w64 (a1+y1.1),y1.2))
def m_gleeref2_kindTones (a0:Int):Option (List Int) :=
  (getI [[],[0,4,7],[0,3,7],[0,3,6],[0,4,8],[0,4,7,10],[0,4,7,11],[0,3,7,10]] a0).bind fun e12=>some e12
def m_gleeref2_TonesOf_l1 (a0:TChord) (i4:Nat) (x5:Int) (u8:(List Int)):Option (Flow (List Int) (List Int)) :=
  (appM 8 u8 [(w64 (a0.Root+x5)).tmod 12]).bind fun q14=>some (.nxt q14)
def m_gleeref2_TonesOf (a0:TChord):Option (List Int) :=
  (m_gleeref2_kindTones a0.Kind).bind fun y2=>(rangeM (m_gleeref2_TonesOf_l1 a0) 0 y2 []).bind fun f11=>Flow.fin f11 fun u8=>(sliceI u8 a0.Turn (u8.length:Int)).bind fun q17=>(sliceI u8 0 a0.Turn).bind fun q18=>(appM 8 q17 q18).bind fun q19=>some q19
def m_gleemake_Stream_Flip (a0_0:(List Int)) (a0_1:Int) (a1:Int):Option (Bool × Int) :=
  (m_gleemake_Stream_Next a0_0 a0_1 a1).bind fun y1=>some (y1.1==0,y1.2)
def m_gleemake_Stream_Pick (a0_0:(List Int)) (a0_1:Int) (a1:(List Int)):Option (Int × Int) :=
  (m_gleemake_Stream_Next a0_0 a0_1 (a1.length:Int)).bind fun y1=>(getI a1 y1.1).bind fun e2=>some (e2,y1.2)
def m_gleemake_Stream_Odd (a0_0:(List Int)) (a0_1:Int) (a1:Int) (a2:Int):Option (Int × Int) :=
  (m_gleemake_Stream_Flip a0_0 a0_1 12).bind fun y1=>ifB y1.1 ((m_gleemake_Stream_Pick a0_0 y1.2 [w64 (a1 - 1),w64 (a2+1),a1,a2,(-1099511627776),1099511627776]).bind fun y3=>some (y3.1,y3.2)) ((m_gleemake_Stream_Range a0_0 y1.2 a1 a2).bind fun y4=>some (y4.1,y4.2))
def m_gleemake_Stream_Notes_l1 (a0_0:(List Int)) (i6:Nat) (x7:Int) (u10:(Int × (List Int))):Option (Flow (Int × (List Int)) ((List Int) × Int)) :=
  (m_gleemake_Stream_Flip a0_0 u10.1 12).bind fun y15=>ifB (!y15.1) ((m_gleemake_Stream_Range a0_0 y15.2 0 3).bind fun y16=>(appM 8 u10.2 [w64 ((w64 (36+x7))+(w64 (12*y16.1)))]).bind fun q18=>some (.nxt (y16.2,q18))) (some (.nxt (y15.2,u10.2)))
def m_gleemake_Stream_Notes (a0_0:(List Int)) (a0_1:Int):Option ((List Int) × Int) :=
  (m_gleemake_Stream_Range a0_0 a0_1 0 11).bind fun y1=>(m_gleemake_Stream_Range a0_0 y1.2 1 7).bind fun y2=>(m_gleeref2_TonesOf (TChord.mk y1.1 y2.1 0)).bind fun y4=>(rangeM (m_gleemake_Stream_Notes_l1 a0_0) 0 y4 (y2.2,[])).bind fun f13=>Flow.fin f13 fun u10=>(m_gleemake_Stream_Flip a0_0 u10.1 4).bind fun y21=>(ifB y21.1 ((appM 8 u10.2 [w64 (24+y1.1)]).bind fun q27=>some (.inl q27)) (some (.inl u10.2)):Option ((List Int) ⊕ ((List Int) × Int))).bind fun k25=>Sum.fin k25 fun u22=>(ifB (decide ((u22.length:Int)>0)) ((m_gleemake_Stream_Flip a0_0 y21.2 10).bind fun y32=>some (.inl (y32.1,y32.2))) (some (.inl (false,y21.2))):Option ((Bool × Int) ⊕ ((List Int) × Int))).bind fun k31=>Sum.fin k31 fun u29=>ifB u29.1 ((m_gleemake_Stream_Next a0_0 u29.2 (u22.length:Int)).bind fun y33=>(m_gleemake_Stream_Odd a0_0 y33.2 0 127).bind fun y34=>(getI u22 y33.1).bind fun e35=>some ((u22.set y33.1.toNat y34.1),y34.2)) (some (u22,u29.2))
def m_gleemake_Stream_AChord (a0_0:(List Int)) (a0_1:Int):Option (TChord × Int) :=
  (m_gleemake_Stream_Flip a0_0 a0_1 40).bind fun y2=>ifB y2.1 ((m_gleemake_Stream_Odd a0_0 y2.2 0 11).bind fun y3=>(m_gleemake_Stream_Odd a0_0 y3.2 1 7).bind fun y4=>(m_gleemake_Stream_Odd a0_0 y4.2 0 3).bind fun y5=>some ((TChord.mk y3.1 y4.1 y5.1),y5.2)) ((m_gleemake_Stream_Range a0_0 y2.2 0 11).bind fun y6=>(m_gleemake_Stream_Range a0_0 y6.2 1 7).bind fun y7=>(m_gleemake_Stream_Pick a0_0 y7.2 [0,0,0,1,2]).bind fun y9=>some ((TChord.mk y6.1 y7.1 y9.1),y9.2))
def m_gleemake_Stream_Chords_l1 (a0_0:(List Int)) (i1:Nat) (x2:Nat) (u5:(Int × (List TChord))):Option (Flow (Int × (List TChord)) ((List TChord) × Int)) :=
  (m_gleemake_Stream_AChord a0_0 u5.1).bind fun y10=>(m_gleemake_Stream_Flip a0_0 y10.2 2).bind fun y12=>(ifB y12.1 ((m_gleemake_Stream_Pick a0_0 y12.2 [0,5,7]).bind fun y17=>some (.inl (y17.2,y17.1,1,0))) (some (.inl (y12.2,y10.1.Root,y10.1.Kind,y10.1.Turn))):Option ((Int × Int × Int × Int) ⊕ (Flow (Int × (List TChord)) ((List TChord) × Int)))).bind fun k15=>Sum.fin k15 fun u13=>(appM 24 u5.2 [(TChord.mk u13.2.1 u13.2.2.1 u13.2.2.2)]).bind fun q19=>some (.nxt (u13.1,q19))
def m_gleemake_Stream_Chords (a0_0:(List Int)) (a0_1:Int) (a1:Int):Option ((List TChord) × Int) :=
  (rangeI a1).bind fun L22=>(rangeM (m_gleemake_Stream_Chords_l1 a0_0) 0 L22 (a0_1,[])).bind fun f8=>Flow.fin f8 fun u5=>some (u5.2,u5.1)
def m_bits_Len (a0:Int):Option Int :=
  (m_bits_Len64 a0).bind fun y1=>some y1
def m_cmp_isNaN_int (a0:Int):Option Bool :=
  some (a0 != a0)
def m_cmp_Compare_int (a0:Int) (a1:Int):Option Int :=
  (m_cmp_isNaN_int a0).bind fun y1=>(m_cmp_isNaN_int a1).bind fun y2=>ifB y1 (ifB y2 (some 0) (some (-1))) (ifB y2 (some 1) (ifB (decide (a0<a1)) (some (-1)) (ifB (decide (a0>a1)) (some 1) (some 0))))
def m_slices_Compare_int_int_l1 (a1:(List Int)) (i1:Nat) (x2:Int) (u4:Unit):Option (Flow Unit Int) :=
  ifB (decide ((i1:Int)≥(a1.length:Int))) (some (.ret 1)) ((getI a1 (i1:Int)).bind fun e8=>(m_cmp_Compare_int x2 e8).bind fun y9=>ifB (y9 != 0) (some (.ret y9)) (some (.nxt ())))
def m_slices_Compare_int_int (a0:(List Int)) (a1:(List Int)):Option Int :=
  (rangeM (m_slices_Compare_int_int_l1 a1) 0 a0 ()).bind fun f7=>Flow.fin f7 fun u4=>ifB (decide ((a0.length:Int)<(a1.length:Int))) (some (-1)) (some 0)
def m_gleemake_Stream_Follows_1 (a0:TFollow) (a1:TFollow):Option Int :=
  (m_slices_Compare_int_int [a0.From,a0.To,a0.Up] [a1.From,a1.To,a1.Up]).bind fun y5=>some y5
def m_slices_insertionSortCmpFunc_api_Follow__gleemake_Stream_Follows_1_l2 (a1:Int) (u5:(Int × (List TFollow))):Option (Flow (Int × (List TFollow)) (Flow (Int × (List TFollow)) (List TFollow))) :=
  ifB (decide (u5.1>a1)) ((getI u5.2 u5.1).bind fun e9=>(getI u5.2 (w64 (u5.1 - 1))).bind fun e10=>(m_gleemake_Stream_Follows_1 e9 e10).bind fun y11=>ifB (decide (y11<0)) ((getI u5.2 (w64 (u5.1 - 1))).bind fun e12=>(getI u5.2 u5.1).bind fun e13=>(getI u5.2 u5.1).bind fun e14=>(getI (u5.2.set u5.1.toNat e12) (w64 (u5.1 - 1))).bind fun e15=>some (.nxt (w64 (u5.1 - 1),((u5.2.set u5.1.toNat e12).set ((w64 (u5.1 - 1)).toNat) e13)))) (some (.brk (u5.1,u5.2)))) (some (.brk (u5.1,u5.2)))
def m_slices_insertionSortCmpFunc_api_Follow__gleemake_Stream_Follows_1_l1 (a1:Int) (a2:Int) (u1:(Int × (List TFollow))):Option (Flow (Int × (List TFollow)) (List TFollow)) :=
  ifB (decide (u1.1<a2)) ((loopM (m_slices_insertionSortCmpFunc_api_Follow__gleemake_Stream_Follows_1_l2 a1) (u1.1,u1.2)).bind fun f8=>Flow.fin f8 fun u5=>some (.nxt (w64 (u1.1+1),u5.2))) (some (.brk (u1.1,u1.2)))
def m_slices_insertionSortCmpFunc_api_Follow__gleemake_Stream_Follows_1 (a0:(List TFollow)) (a1:Int) (a2:Int):Option (List TFollow) :=
  (loopM (m_slices_insertionSortCmpFunc_api_Follow__gleemake_Stream_Follows_1_l1 a1 a2) (w64 (a1+1),a0)).bind fun f4=>Flow.fin f4 fun u1=>some u1.2
def m_slices_pdqsortCmpFunc_api_Follow__gleemake_Stream_Follows_1_l1 (a0:(List TFollow)) (a1:Int) (a2:Int) (a3:Int) (u1:Unit):Option (Flow Unit (List TFollow)) :=
  ifB (decide ((w64 (a2 - a1))≤12)) ((m_slices_insertionSortCmpFunc_api_Follow__gleemake_Stream_Follows_1 a0 a1 a2).bind fun y5=>some (.ret y5)) (ifB (a3==0) (none) ((ifB (!true) (none) (some (.inl ())):Option (Unit ⊕ (Flow Unit (List TFollow)))).bind fun k8=>Sum.fin k8 fun u6=>none))
def m_slices_pdqsortCmpFunc_api_Follow__gleemake_Stream_Follows_1 (a0:(List TFollow)) (a1:Int) (a2:Int) (a3:Int):Option (List TFollow) :=
  (loopM (m_slices_pdqsortCmpFunc_api_Follow__gleemake_Stream_Follows_1_l1 a0 a1 a2 a3) ()).bind fun f4=>Flow.fin f4 fun u1=>some a0
def m_slices_SortFunc_api_Follow_api_Follow__gleemake_Stream_Follows_1 (a0:(List TFollow)):Option (List TFollow) :=
  (m_bits_Len (IntKind.wrap .u64 (a0.length:Int))).bind fun y1=>(m_slices_pdqsortCmpFunc_api_Follow__gleemake_Stream_Follows_1 a0 0 (a0.length:Int) y1).bind fun y2=>some y2
def m_slices_Compact_api_Follow_api_Follow_l2 (a0:(List TFollow)) (u1:Int) (u8:(Int × Int × (List TFollow))):Option (Flow (Int × Int × (List TFollow)) (Flow Int (List TFollow))) :=
  (sliceI u8.2.2 u1 (a0.length:Int)).bind fun q12=>ifB (decide (u8.2.1<(q12.length:Int))) ((getI q12 u8.2.1).bind fun e13=>(getI q12 (w64 (u8.2.1 - 1))).bind fun e14=>ifB (!(decide (e13=e14))) ((getI q12 u8.2.1).bind fun e15=>(getI u8.2.2 u8.1).bind fun e16=>some (.nxt (w64 (u8.1+1),w64 (u8.2.1+1),(u8.2.2.set u8.1.toNat e15)))) (some (.nxt (u8.1,w64 (u8.2.1+1),u8.2.2)))) (some (.brk (u8.1,u8.2.1,u8.2.2)))
def m_slices_Compact_api_Follow_api_Follow_l1 (a0:(List TFollow)) (u1:Int):Option (Flow Int (List TFollow)) :=
  ifB (decide (u1<(a0.length:Int))) ((getI a0 u1).bind fun e5=>(getI a0 (w64 (u1 - 1))).bind fun e6=>ifB (decide (e5=e6)) ((sliceI a0 u1 (a0.length:Int)).bind fun q7=>(loopM (m_slices_Compact_api_Follow_api_Follow_l2 a0 u1) (u1,1,a0)).bind fun f11=>Flow.fin f11 fun u8=>(sliceI u8.2.2 u8.1 (u8.2.2.length:Int)).bind fun q17=>(sliceI (clearM (TFollow.mk 0 0 0) u8.2.2 u8.1) 0 u8.1).bind fun q18=>some (.ret q18)) (some (.nxt (w64 (u1+1))))) (some (.brk u1))
def m_slices_Compact_api_Follow_api_Follow (a0:(List TFollow)):Option (List TFollow) :=
  ifB (decide ((a0.length:Int)<2)) (some a0) ((loopM (m_slices_Compact_api_Follow_api_Follow_l1 a0) 1).bind fun f4=>Flow.fin f4 fun u1=>some a0)
def m_gleemake_Stream_Follows_l1 (a0_0:(List Int)) (i2:Nat) (x3:Nat) (u6:(Int × (List TFollow))):Option (Flow (Int × (List TFollow)) ((List TFollow) × Int)) :=
  (m_gleemake_Stream_Pick a0_0 u6.1 [1,1,2,5]).bind fun y12=>(m_gleemake_Stream_Pick a0_0 y12.2 [1,1,2,5]).bind fun y14=>(m_gleemake_Stream_Pick a0_0 y14.2 [5,7,7,9,2,0]).bind fun y16=>(appM 24 u6.2 [(TFollow.mk y12.1 y14.1 y16.1)]).bind fun q18=>some (.nxt (y16.2,q18))
def m_gleemake_Stream_Follows (a0_0:(List Int)) (a0_1:Int):Option ((List TFollow) × Int) :=
  (m_gleemake_Stream_Range a0_0 a0_1 0 8).bind fun y1=>(rangeI y1.1).bind fun L33=>(rangeM (m_gleemake_Stream_Follows_l1 a0_0) 0 L33 (y1.2,[])).bind fun f9=>Flow.fin f9 fun u6=>(m_slices_SortFunc_api_Follow_api_Follow__gleemake_Stream_Follows_1 u6.2).bind fun y21=>(m_slices_Compact_api_Follow_api_Follow y21).bind fun y22=>(ifB (decide ((y22.length:Int)>0)) ((m_gleemake_Stream_Flip a0_0 u6.1 12).bind fun y27=>some (.inl (y27.1,y27.2))) (some (.inl (false,u6.1))):Option ((Bool × Int) ⊕ ((List TFollow) × Int))).bind fun k26=>Sum.fin k26 fun u24=>ifB u24.1 ((m_gleemake_Stream_Next a0_0 u24.2 (y22.length:Int)).bind fun y28=>(m_gleemake_Stream_Odd a0_0 y28.2 1 7).bind fun y29=>(m_gleemake_Stream_Odd a0_0 y29.2 1 7).bind fun y30=>(m_gleemake_Stream_Odd a0_0 y30.2 0 11).bind fun y31=>(getI y22 y28.1).bind fun e32=>some ((y22.set y28.1.toNat (TFollow.mk y29.1 y30.1 y31.1)),y31.2)) (some (y22,u24.2))
def m_gleemake_Stream_Ranges_l1 (a0_0:(List Int)) (i4:Nat) (x5:Int) (u8:(Int × (List TRange))):Option (Flow (Int × (List TRange)) ((List TRange) × Int)) :=
  (m_gleemake_Stream_Range a0_0 u8.1 (-2) 2).bind fun y13=>(m_gleemake_Stream_Pick a0_0 y13.2 [7,9,11,12]).bind fun y15=>(appM 16 u8.2 [(TRange.mk (w64 (x5+y13.1)) (w64 ((w64 (x5+y13.1))+y15.1)))]).bind fun q17=>some (.nxt (y15.2,q17))
def m_gleemake_Stream_Ranges (a0_0:(List Int)) (a0_1:Int):Option ((List TRange) × Int) :=
  (m_gleemake_Stream_Range a0_0 a0_1 1 4).bind fun y2=>(sliceI [45,52,59,64] 0 y2.1).bind fun q3=>(rangeM (m_gleemake_Stream_Ranges_l1 a0_0) 0 q3 (y2.2,[])).bind fun f11=>Flow.fin f11 fun u8=>(m_gleemake_Stream_Flip a0_0 u8.1 20).bind fun y20=>ifB y20.1 ((m_gleemake_Stream_Next a0_0 y20.2 (u8.2.length:Int)).bind fun y21=>(getI u8.2 y21.1).bind fun e22=>(m_gleemake_Stream_Odd a0_0 y21.2 0 60).bind fun y23=>(m_gleemake_Stream_Odd a0_0 y23.2 0 127).bind fun y24=>some (((u8.2.set y21.1.toNat (TRange.mk y23.1 e22.High)).set y21.1.toNat (TRange.mk y23.1 y24.1)),y24.2)) (some (u8.2,y20.2))
def m_slices_Clone_int_int (a0:(List Int)):Option (List Int) :=
  (appM 8 ([]:List Int) a0).bind fun q3=>some q3
def m_gleemake_Stream_Voices_l3 (a0_0:(List Int)) (y33:(Int × Int)) (i34:Nat) (x35:Int) (u37:(Int × (List Int))):Option (Flow (Int × (List Int)) (Flow (Int × (List (List Int)) × (List Int)) ((List (List Int)) × Int))) :=
  (getI u37.2 (i34:Int)).bind fun e42=>(m_gleemake_Stream_Range a0_0 u37.1 (-5) 5).bind fun y43=>(m_gleemake_Stream_Pick a0_0 y43.2 [y33.1,y33.1,y33.1,y43.1,12]).bind fun y45=>(getI u37.2 (i34:Int)).bind fun e46=>(getI (u37.2.set ((i34:Int).toNat) (w64 (e42+y45.1))) (i34:Int)).bind fun e47=>(getI (u37.2.set ((i34:Int).toNat) (w64 (e42+y45.1))) (i34:Int)).bind fun e48=>some (.nxt (y45.2,((u37.2.set ((i34:Int).toNat) (w64 (e42+y45.1))).set ((i34:Int).toNat) (max 0 (min e47 127)))))
def m_gleemake_Stream_Voices_l2 (a0_0:(List Int)) (i17:Nat) (x18:Nat) (u21:(Int × (List (List Int)) × (List Int))):Option (Flow (Int × (List (List Int)) × (List Int)) ((List (List Int)) × Int)) :=
  (m_slices_Clone_int_int u21.2.2).bind fun y27=>(appM 24 u21.2.1 [y27]).bind fun q30=>(m_gleemake_Stream_Range a0_0 u21.1 (-3) 3).bind fun y33=>(rangeM (m_gleemake_Stream_Voices_l3 a0_0 y33) 0 u21.2.2 (y33.2,u21.2.2)).bind fun f40=>Flow.fin f40 fun u37=>some (.nxt (u37.1,q30,u37.2))
def m_gleemake_Stream_Voices_l1 (a0_0:(List Int)) (i3:Nat) (x4:Nat) (u6:(Int × (List Int))):Option (Flow (Int × (List Int)) ((List (List Int)) × Int)) :=
  (m_gleemake_Stream_Range a0_0 u6.1 (-2) 2).bind fun y11=>(appM 8 u6.2 [w64 ((w64 (48+(w64 (7*(i3:Int)))))+y11.1)]).bind fun q13=>some (.nxt (y11.2,q13))
def m_gleemake_Stream_Voices (a0_0:(List Int)) (a0_1:Int):Option ((List (List Int)) × Int) :=
  (m_gleemake_Stream_Range a0_0 a0_1 1 4).bind fun y1=>(rangeI y1.1).bind fun L79=>(rangeM (m_gleemake_Stream_Voices_l1 a0_0) 0 L79 (y1.2,[])).bind fun f9=>Flow.fin f9 fun u6=>(m_gleemake_Stream_Range a0_0 u6.1 0 5).bind fun y16=>(rangeI y16.1).bind fun L78=>(rangeM (m_gleemake_Stream_Voices_l2 a0_0) 0 L78 (y16.2,[],u6.2)).bind fun f24=>Flow.fin f24 fun u21=>(ifB (decide ((u21.2.1.length:Int)>0)) ((m_gleemake_Stream_Flip a0_0 u21.1 12).bind fun y59=>some (.inl (y59.1,y59.2))) (some (.inl (false,u21.1))):Option ((Bool × Int) ⊕ ((List (List Int)) × Int))).bind fun k58=>Sum.fin k58 fun u56=>ifB u56.1 ((m_gleemake_Stream_Next a0_0 u56.2 (u21.2.1.length:Int)).bind fun y60=>(getI u21.2.1 y60.1).bind fun e61=>(m_gleemake_Stream_Odd a0_0 y60.2 0 127).bind fun y62=>(appM 8 e61 [y62.1]).bind fun q66=>(m_gleemake_Stream_Range a0_0 y62.2 0 1).bind fun y68=>(sliceI q66 y68.1 (q66.length:Int)).bind fun q69=>(getI u21.2.1 y60.1).bind fun e70=>some ((u21.2.1.set y60.1.toNat q69),y68.2)) (some (u21.2.1,u56.2))
def m_kit_Outside (a0:Int) (a1:Int) (a2:Int):Option Bool :=
  ifB (decide (a0<a1)) (some true) (some (decide (a0>a2)))
def m_chord_notesFault_1 (a0:Int):Option Bool :=
  (m_kit_Outside a0 0 127).bind fun y1=>some y1
def m_slices_IndexFunc_int_int__chord_notesFault_1_l1  (i1:Nat) (x2:Int) (u4:Unit):Option (Flow Unit Int) :=
  (m_chord_notesFault_1 x2).bind fun y8=>ifB y8 (some (.ret (i1:Int))) (some (.nxt ()))
def m_slices_IndexFunc_int_int__chord_notesFault_1 (a0:(List Int)):Option Int :=
  (rangeM m_slices_IndexFunc_int_int__chord_notesFault_1_l1 0 a0 ()).bind fun f7=>Flow.fin f7 fun u4=>some (-1)
def m_slices_ContainsFunc_int_int__chord_notesFault_1 (a0:(List Int)):Option Bool :=
  (m_slices_IndexFunc_int_int__chord_notesFault_1 a0).bind fun y1=>some (decide (y1≥0))
def m_chord_notesFault (a0:(List Int)) (a1:Int):Option Int :=
  ifB ((a0.length:Int)==0) (some 8) (ifB (decide ((a0.length:Int)>a1)) (some 2) ((m_slices_ContainsFunc_int_int__chord_notesFault_1 a0).bind fun y1=>ifB y1 (some 1) (some 0)))
def m_chord_set_l1  (i1:Nat) (x2:Int) (u5:(List Int)):Option (Flow (List Int) (List Int)) :=
  (appM 8 u5 [x2.tmod 12]).bind fun q11=>some (.nxt q11)
def m_chord_set (a0:(List Int)):Option (List Int) :=
  (rangeM m_chord_set_l1 0 a0 []).bind fun f8=>Flow.fin f8 fun u5=>(m_slices_Sort_int_int u5).bind fun y14=>(m_slices_Compact_int_int y14).bind fun y15=>some y15
def m_slices_Min_int_int_l1 (a0:(List Int)) (u2:(Int × Int)):Option (Flow (Int × Int) Int) :=
  ifB (decide (u2.2<(a0.length:Int))) ((getI a0 u2.2).bind fun e6=>some (.nxt (min u2.1 e6,w64 (u2.2+1)))) (some (.brk (u2.1,u2.2)))
def m_slices_Min_int_int (a0:(List Int)):Option Int :=
  ifB (decide ((a0.length:Int)<1)) (none) ((getI a0 0).bind fun e1=>(loopM (m_slices_Min_int_int_l1 a0) (e1,1)).bind fun f5=>Flow.fin f5 fun u2=>some u2.1)
def m_chord_above (a0:Int):Option (List Int) :=
  (getI [[],[0,4,7],[0,3,7],[0,3,6],[0,4,8],[0,4,7,10],[0,4,7,11],[0,3,7,10]] a0).bind fun e12=>some e12
def m_chord_tones_l1 (a0:TChord) (y2:(List Int)) (i4:Nat) (x5:Int) (u8:(List Int)):Option (Flow (List Int) (List Int)) :=
  (remM (w64 ((i4:Int)+a0.Turn)) (y2.length:Int)).bind fun z13=>(getI y2 z13).bind fun e14=>(appM 8 u8 [(w64 (a0.Root+e14)).tmod 12]).bind fun q16=>some (.nxt q16)
def m_chord_tones (a0:TChord):Option (List Int) :=
  (m_chord_above a0.Kind).bind fun y2=>(rangeM (m_chord_tones_l1 a0 y2) 0 y2 []).bind fun f11=>Flow.fin f11 fun u8=>some u8
def m_slices_Equal_int_int_l1 (a1:(List Int)) (i1:Nat) (x2:Int) (u4:Unit):Option (Flow Unit Bool) :=
  (getI a1 (i1:Int)).bind fun e8=>ifB (x2 != e8) (some (.ret false)) (some (.nxt ()))
def m_slices_Equal_int_int (a0:(List Int)) (a1:(List Int)):Option Bool :=
  ifB ((a0.length:Int) != (a1.length:Int)) (some false) ((rangeM (m_slices_Equal_int_int_l1 a1) 0 a0 ()).bind fun f7=>Flow.fin f7 fun u4=>some true)
def m_slices_Index_int_int_l1 (a1:Int) (i1:Nat) (x2:Int) (u4:Unit):Option (Flow Unit Int) :=
  ifB (a1==x2) (some (.ret (i1:Int))) (some (.nxt ()))
def m_slices_Index_int_int (a0:(List Int)) (a1:Int):Option Int :=
  (rangeM (m_slices_Index_int_int_l1 a1) 0 a0 ()).bind fun f7=>Flow.fin f7 fun u4=>some (-1)
def m_chord_Of_l2 (y3:(List Int)) (y5:Int) (i6:Nat) (u15:(Int × (List TChord))):Option (Flow (Int × (List TChord)) (Flow (List TChord) ((List TChord) × Int))) :=
  ifB (decide (u15.1≤7)) ((m_chord_tones (TChord.mk (i6:Int) u15.1 0)).bind fun y21=>(m_chord_set y21).bind fun y23=>(m_slices_Equal_int_int y23 y3).bind fun y25=>ifB y25 ((m_slices_Index_int_int y21 (y5.tmod 12)).bind fun y26=>(appM 24 u15.2 [(TChord.mk (i6:Int) u15.1 y26)]).bind fun q28=>some (.nxt (w64 (u15.1+1),q28))) (some (.nxt (w64 (u15.1+1),u15.2)))) (some (.brk (u15.1,u15.2)))
def m_chord_Of_l1 (y3:(List Int)) (y5:Int) (i6:Nat) (x7:Nat) (u10:(List TChord)):Option (Flow (List TChord) ((List TChord) × Int)) :=
  (loopM (m_chord_Of_l2 y3 y5 i6) (1,u10)).bind fun f18=>Flow.fin f18 fun u15=>some (.nxt u15.2)
def m_chord_Of (a0:(List Int)):Option ((List TChord) × Int) :=
  (m_chord_notesFault a0 12).bind fun y1=>ifB (y1 != 0) (some ([],y1)) ((m_chord_set a0).bind fun y3=>(m_slices_Min_int_int a0).bind fun y5=>(rangeI 12).bind fun L32=>(rangeM (m_chord_Of_l1 y3 y5) 0 L32 []).bind fun f13=>Flow.fin f13 fun u10=>some (u10,0))
def m_gleekeep2_spoil_api_Chord_l1  (i2:Nat) (x3:TChord) (u5:(List TChord)):Option (Flow (List TChord) (List TChord)) :=
  (getI u5 (i2:Int)).bind fun e9=>some (.nxt (u5.set ((i2:Int).toNat) (TChord.mk 0 0 0)))
def m_gleekeep2_spoil_api_Chord (a0:(List TChord)):Option (List TChord) :=
  (rangeM m_gleekeep2_spoil_api_Chord_l1 0 a0 a0).bind fun f8=>Flow.fin f8 fun u5=>some u5
def m_chord_isKind (a0:Int):Option Bool :=
  (m_kit_Outside a0 1 7).bind fun y1=>some (!y1)
def m_chord_compareFollows_l1  (i4:Nat) (x5:Int) (u7:Unit):Option (Flow Unit Int) :=
  ifB (x5 != 0) (some (.ret x5)) (some (.nxt ()))
def m_chord_compareFollows (a0:TFollow) (a1:TFollow):Option Int :=
  (rangeM m_chord_compareFollows_l1 0 [w64 (a0.From - a1.From),w64 (a0.To - a1.To),w64 (a0.Up - a1.Up)] ()).bind fun f10=>Flow.fin f10 fun u7=>some 0
def m_chord_CheckFollows_l1 (a0:(List TFollow)) (i1:Nat) (x2:TFollow) (u4:Unit):Option (Flow Unit Int) :=
  ((m_chord_isKind x2.From).bind fun y12=>ifB (!y12) (some (.inl true)) ((m_chord_isKind x2.To).bind fun y13=>some (.inl (!y13))):Option (Bool ⊕ (Flow Unit Int))).bind fun k11=>Sum.fin k11 fun u9=>ifB u9 (some (.ret 4)) ((m_kit_Outside x2.Up 0 11).bind fun y14=>ifB y14 (some (.ret 1)) (ifB (decide ((i1:Int)>0)) ((getI a0 (w64 ((i1:Int) - 1))).bind fun e15=>(m_chord_compareFollows e15 x2).bind fun y16=>ifB (decide (y16≥0)) (some (.ret 7)) (some (.nxt ()))) (some (.nxt ()))))
def m_chord_CheckFollows (a0:(List TFollow)):Option Int :=
  ifB (decide ((a0.length:Int)>500)) (some 2) ((rangeM (m_chord_CheckFollows_l1 a0) 0 a0 ()).bind fun f7=>Flow.fin f7 fun u4=>some 0)
def m_chord_CheckChord (a0:TChord):Option Int :=
  (m_kit_Outside a0.Root 0 11).bind fun y2=>ifB y2 (some 1) ((m_chord_isKind a0.Kind).bind fun y3=>ifB (!y3) (some 4) ((m_chord_above a0.Kind).bind fun y4=>(m_kit_Outside a0.Turn 0 (w64 ((y4.length:Int) - 1))).bind fun y6=>ifB y6 (some 1) (some 0)))
def m_chord_checkAll_l1  (i1:Nat) (x2:TChord) (u4:Unit):Option (Flow Unit Int) :=
  (m_chord_CheckChord x2).bind fun y9=>ifB (y9 != 0) (some (.ret y9)) (some (.nxt ()))
def m_chord_checkAll (a0:(List TChord)):Option Int :=
  (rangeM m_chord_checkAll_l1 0 a0 ()).bind fun f7=>Flow.fin f7 fun u4=>some 0
def m_chord_all_l2 (i1:Nat) (u10:(Int × (List TChord))):Option (Flow (Int × (List TChord)) (Flow (List TChord) (List TChord))) :=
  ifB (decide (u10.1≤7)) ((appM 24 u10.2 [(TChord.mk (i1:Int) u10.1 0)]).bind fun q16=>some (.nxt (w64 (u10.1+1),q16))) (some (.brk (u10.1,u10.2)))
def m_chord_all_l1  (i1:Nat) (x2:Nat) (u5:(List TChord)):Option (Flow (List TChord) (List TChord)) :=
  (loopM (m_chord_all_l2 i1) (1,u5)).bind fun f13=>Flow.fin f13 fun u10=>some (.nxt u10.2)
def m_chord_all  : Option (List TChord) :=
  (rangeI 12).bind fun L20=>(rangeM m_chord_all_l1 0 L20 []).bind fun f8=>Flow.fin f8 fun u5=>some u5
def m_slices_Index_api_Follow_api_Follow_l1 (a1:TFollow) (i2:Nat) (x3:TFollow) (u5:Unit):Option (Flow Unit Int) :=
  ifB (decide (a1=x3)) (some (.ret (i2:Int))) (some (.nxt ()))
def m_slices_Index_api_Follow_api_Follow (a0:(List TFollow)) (a1:TFollow):Option Int :=
  (rangeM (m_slices_Index_api_Follow_api_Follow_l1 a1) 0 a0 ()).bind fun f8=>Flow.fin f8 fun u5=>some (-1)
def m_slices_Contains_api_Follow_api_Follow (a0:(List TFollow)) (a1:TFollow):Option Bool :=
  (m_slices_Index_api_Follow_api_Follow a0 a1).bind fun y2=>some (decide (y2≥0))
def m_chord_may (a0:(List TFollow)) (a1:TChord) (a2:TChord):Option Bool :=
  (m_slices_Contains_api_Follow_api_Follow a0 (TFollow.mk a1.Kind a2.Kind ((w64 ((w64 (a2.Root - a1.Root))+12)).tmod 12))).bind fun y3=>some y3
def m_chord_stepsTo_l2 (a0:(List TFollow)) (e11:TChord) (i16:Nat) (x17:TChord) (u19:((List (TChord × Int)) × (List TChord))):Option (Flow ((List (TChord × Int)) × (List TChord)) (Flow ((List (TChord × Int)) × (List TChord)) (List (TChord × Int)))) :=
  (ifB (!(hasM u19.1 x17)) ((m_chord_may a0 x17 e11).bind fun y28=>some (.inl y28)) (some (.inl false)):Option (Bool ⊕ (Flow ((List (TChord × Int)) × (List TChord)) (Flow ((List (TChord × Int)) × (List TChord)) (List (TChord × Int)))))).bind fun k27=>Sum.fin k27 fun u25=>ifB u25 ((appM 24 u19.2 [x17]).bind fun q32=>some (.nxt (putM u19.1 x17 (w64 (((lkM u19.1 e11).getD 0)+1)),q32))) (some (.nxt (u19.1,u19.2)))
def m_chord_stepsTo_l1 (a0:(List TFollow)) (u6:((List (TChord × Int)) × (List TChord))):Option (Flow ((List (TChord × Int)) × (List TChord)) (List (TChord × Int))) :=
  ifB (decide ((u6.2.length:Int)>0)) ((getI u6.2 0).bind fun e11=>(sliceI u6.2 1 (u6.2.length:Int)).bind fun q13=>m_chord_all.bind fun y14=>(rangeM (m_chord_stepsTo_l2 a0 e11) 0 y14 (u6.1,q13)).bind fun f22=>Flow.fin f22 fun u19=>some (.nxt (u19.1,u19.2))) (some (.brk (u6.1,u6.2)))
def m_chord_stepsTo (a0:(List TFollow)) (a1:TChord):Option (List (TChord × Int)) :=
  (loopM (m_chord_stepsTo_l1 a0) (putM ([]:(List (TChord × Int))) a1 0,[a1])).bind fun f9=>Flow.fin f9 fun u6=>some u6.1
def m_chord_Way_l2 (a0:(List TFollow)) (y8:(List (TChord × Int))) (u14:(Int × (List TChord))) (i21:Nat) (x22:TChord) (u24:(List TChord)):Option (Flow (List TChord) (Flow (Int × (List TChord)) ((List TChord) × Bool × Int))) :=
  ifB (hasM y8 x22) (ifB (((lkM y8 x22).getD 0)==(w64 (u14.1 - 1))) ((getI u24 (w64 ((u24.length:Int) - 1))).bind fun e30=>(m_chord_may a0 e30 x22).bind fun y31=>ifB y31 ((appM 24 u24 [x22]).bind fun q33=>some (.brk q33)) (some (.nxt u24))) (some (.nxt u24))) (some (.nxt u24))
def m_chord_Way_l1 (a0:(List TFollow)) (y8:(List (TChord × Int))) (u14:(Int × (List TChord))):Option (Flow (Int × (List TChord)) ((List TChord) × Bool × Int)) :=
  ifB (decide (u14.1>0)) (m_chord_all.bind fun y19=>(rangeM (m_chord_Way_l2 a0 y8 u14) 0 y19 u14.2).bind fun f27=>Flow.fin f27 fun u24=>some (.nxt (w64 (u14.1 - 1),u24))) (some (.brk (u14.1,u14.2)))
def m_chord_Way (a0:(List TFollow)) (a1:TChord) (a2:TChord):Option ((List TChord) × Bool × Int) :=
  (m_chord_CheckFollows a0).bind fun y3=>ifB (y3 != 0) (some ([],false,y3)) ((m_chord_checkAll [a1,a2]).bind fun y6=>ifB (y6 != 0) (some ([],false,y6)) ((m_chord_stepsTo a0 (TChord.mk a2.Root a2.Kind 0)).bind fun y8=>ifB (!(hasM y8 (TChord.mk a1.Root a1.Kind 0))) (some ([],false,0)) ((loopM (m_chord_Way_l1 a0 y8) (((lkM y8 (TChord.mk a1.Root a1.Kind 0)).getD 0),[(TChord.mk a1.Root a1.Kind 0)])).bind fun f17=>Flow.fin f17 fun u14=>some (u14.2,true,0))))
def m_chord_rangesFault_1 (a0:TRange):Option Bool :=
  some (decide ((w64 ((w64 (a0.High - a0.Low))+1))>25))
def m_slices_IndexFunc_api_Range_api_Range__chord_rangesFault_1_l1  (i1:Nat) (x2:TRange) (u4:Unit):Option (Flow Unit Int) :=
  (m_chord_rangesFault_1 x2).bind fun y8=>ifB y8 (some (.ret (i1:Int))) (some (.nxt ()))
def m_slices_IndexFunc_api_Range_api_Range__chord_rangesFault_1 (a0:(List TRange)):Option Int :=
  (rangeM m_slices_IndexFunc_api_Range_api_Range__chord_rangesFault_1_l1 0 a0 ()).bind fun f7=>Flow.fin f7 fun u4=>some (-1)
def m_slices_ContainsFunc_api_Range_api_Range__chord_rangesFault_1 (a0:(List TRange)):Option Bool :=
  (m_slices_IndexFunc_api_Range_api_Range__chord_rangesFault_1 a0).bind fun y1=>some (decide (y1≥0))
def m_chord_rangesFault_l1  (i1:Nat) (x2:TRange) (u4:Unit):Option (Flow Unit Int) :=
  ((m_kit_Outside x2.Low 0 x2.High).bind fun y12=>ifB y12 (some (.inl true)) (some (.inl (decide (x2.High>127)))):Option (Bool ⊕ (Flow Unit Int))).bind fun k11=>Sum.fin k11 fun u9=>ifB u9 (some (.ret 1)) (some (.nxt ()))
def m_chord_rangesFault (a0:(List TRange)):Option Int :=
  ifB ((a0.length:Int)==0) (some 8) (ifB (decide ((a0.length:Int)>5)) (some 2) ((rangeM m_chord_rangesFault_l1 0 a0 ()).bind fun f7=>Flow.fin f7 fun u4=>(m_slices_ContainsFunc_api_Range_api_Range__chord_rangesFault_1 a0).bind fun y13=>ifB y13 (some 2) (some 0)))
def m_chord_bestFault (a0:(List TChord)) (a1:(List TRange)) (a2:Int):Option Int :=
  ifB ((a0.length:Int)==0) (some 8) (ifB (decide ((a0.length:Int)>12)) (some 2) ((m_chord_checkAll a0).bind fun y1=>ifB (y1 != 0) (some y1) ((m_chord_rangesFault a1).bind fun y2=>ifB (y2 != 0) (some y2) ((m_kit_Outside a2 0 24).bind fun y3=>ifB y3 (some 1) (some 0)))))
def m_chord_fits (a0:TChord) (a1:(List Int)):Option Bool :=
  (m_chord_tones a0).bind fun y2=>((getI a1 0).bind fun e7=>(getI y2 0).bind fun e8=>ifB ((e7.tmod 12)==e8) ((m_chord_set a1).bind fun y9=>(m_chord_set y2).bind fun y11=>(m_slices_Equal_int_int y9 y11).bind fun y13=>some (.inl y13)) (some (.inl false)):Option (Bool ⊕ Bool)).bind fun k6=>Sum.fin k6 fun u4=>some u4
def m_slices_Contains_int_int (a0:(List Int)) (a1:Int):Option Bool :=
  (m_slices_Index_int_int a0 a1).bind fun y1=>some (decide (y1≥0))
def m_chord_finder_find_l1 (a0_0:Int) (a0_1:Int) (a0_2:Int) (a0_3:(List TRange)) (a0_4:(List Int)) (a1:(List Int)) (self_:(Int→Int→Int→(List TRange)→(List Int)→(List (List Int))→(List Int)→Option (List (List Int)))) (u17:(Int × (List (List Int)))):Option (Flow (Int × (List (List Int))) (List (List Int))) :=
  (getI a0_3 (a1.length:Int)).bind fun e21=>ifB (decide (u17.1≤e21.High)) (((m_slices_Contains_int_int a0_4 (u17.1.tmod 12)).bind fun y25=>ifB (!y25) (some (.inl true)) (ifB ((a1.length:Int)==0) ((getI a0_4 0).bind fun e26=>some (.inl ((u17.1.tmod 12) != e26))) (some (.inl false))):Option (Bool ⊕ (Flow (Int × (List (List Int))) (List (List Int))))).bind fun k24=>Sum.fin k24 fun u22=>ifB u22 (some (.nxt (w64 (u17.1+1),u17.2))) ((ifB (decide ((a1.length:Int)>0)) ((getI a1 (w64 ((a1.length:Int) - 1))).bind fun e30=>ifB (decide (u17.1<e30)) (some (.inl true)) (ifB (decide ((a1.length:Int)>1)) ((getI a1 (w64 ((a1.length:Int) - 1))).bind fun e31=>some (.inl (decide ((w64 (u17.1 - e31))>12)))) (some (.inl false)))) (some (.inl false)):Option (Bool ⊕ (Flow (Int × (List (List Int))) (List (List Int))))).bind fun k29=>Sum.fin k29 fun u27=>ifB u27 (some (.nxt (w64 (u17.1+1),u17.2))) ((appM 8 a1 [u17.1]).bind fun q33=>(self_ a0_0 a0_1 a0_2 a0_3 a0_4 u17.2 q33).bind fun y36=>some (.nxt (w64 (u17.1+1),y36))))) (some (.brk (u17.1,u17.2)))
def m_chord_finder_find_b (self_:(Int→Int→Int→(List TRange)→(List Int)→(List (List Int))→(List Int)→Option (List (List Int)))) (a0_0:Int) (a0_1:Int) (a0_2:Int) (a0_3:(List TRange)) (a0_4:(List Int)) (a0_5:(List (List Int))) (a1:(List Int)):Option (List (List Int)) :=
  ifB (decide ((a0_5.length:Int)>1000)) (some a0_5) (ifB ((a1.length:Int)==(a0_3.length:Int)) ((m_chord_fits (TChord.mk a0_0 a0_1 a0_2) a1).bind fun y1=>(ifB y1 ((m_slices_Clone_int_int a1).bind fun y5=>(appM 24 a0_5 [y5]).bind fun q8=>some (.inl q8)) (some (.inl a0_5)):Option ((List (List Int)) ⊕ (List (List Int)))).bind fun k4=>Sum.fin k4 fun u2=>some u2) ((getI a0_3 (a1.length:Int)).bind fun e16=>(loopM (m_chord_finder_find_l1 a0_0 a0_1 a0_2 a0_3 a0_4 a1 self_) (e16.Low,a0_5)).bind fun f20=>Flow.fin f20 fun u17=>some u17.2))
def m_chord_finder_find:Nat→Int→Int→Int→(List TRange)→(List Int)→(List (List Int))→(List Int)→Option (List (List Int))
  | 0=>fun _ _ _ _ _ _ _=>none
  | fu_+1=>m_chord_finder_find_b (m_chord_finder_find fu_)
def m_chord_size (a0:Int):Option Int :=
  some (max a0 (w64 (0 - a0)))
def m_chord_apart_1 (a0:Int):Option Int :=
  some ((w64 ((a0.tmod 12)+12)).tmod 12)
def m_chord_apart (a0:(List Int)) (a1:(List Int)) (a2:Int) (a3:Int) (a4:Int):Option Bool :=
  (getI a1 a2).bind fun e1=>(getI a0 a2).bind fun e2=>(getI a1 a3).bind fun e3=>(getI a0 a3).bind fun e4=>(ifB (decide ((w64 (e1 - e2))>0)) (ifB (decide ((w64 (e3 - e4))>0)) (some (.inl true)) (ifB (decide ((w64 (e1 - e2))<0)) (some (.inl (decide ((w64 (e3 - e4))<0)))) (some (.inl false)))) (ifB (decide ((w64 (e1 - e2))<0)) (some (.inl (decide ((w64 (e3 - e4))<0)))) (some (.inl false))):Option (Bool ⊕ Bool)).bind fun k7=>Sum.fin k7 fun u5=>ifB u5 ((getI a0 a3).bind fun e8=>(getI a0 a2).bind fun e9=>(m_chord_apart_1 (w64 (e8 - e9))).bind fun y10=>ifB (y10==a4) ((getI a1 a3).bind fun e11=>(getI a1 a2).bind fun e12=>(m_chord_apart_1 (w64 (e11 - e12))).bind fun y13=>some (y13==a4)) (some false)) (some false)
def m_chord_moved_l3 (a0:Int) (a1:(List Int)) (a2:(List Int)) (x3:Int) (u11:Int) (i14:Nat) (u22:(Int × (List TFault))):Option (Flow (Int × (List TFault)) (Flow (List TFault) (Flow (List TFault) (List TFault)))) :=
  ifB (decide (u22.1<(a2.length:Int))) ((m_chord_apart a1 a2 (i14:Int) u22.1 u11).bind fun y27=>ifB y27 ((appM 32 u22.2 [(TFault.mk a0 x3 (i14:Int) u22.1)]).bind fun q29=>some (.nxt (w64 (u22.1+1),q29))) (some (.nxt (w64 (u22.1+1),u22.2)))) (some (.brk (u22.1,u22.2)))
def m_chord_moved_l2 (a0:Int) (a1:(List Int)) (a2:(List Int)) (x3:Int) (u11:Int) (i14:Nat) (x15:Int) (u17:(List TFault)):Option (Flow (List TFault) (Flow (List TFault) (List TFault))) :=
  (loopM (m_chord_moved_l3 a0 a1 a2 x3 u11 i14) (w64 ((i14:Int)+1),u17)).bind fun f25=>Flow.fin f25 fun u22=>some (.nxt u22.2)
def m_chord_moved_l4 (a0:Int) (a1:(List Int)) (a3:Int) (i34:Nat) (x35:Int) (u37:(List TFault)):Option (Flow (List TFault) (List TFault)) :=
  (getI a1 (i34:Int)).bind fun e42=>(m_chord_size (w64 (x35 - e42))).bind fun y43=>ifB (decide (y43>a3)) ((appM 32 u37 [(TFault.mk a0 5 (i34:Int) (i34:Int))]).bind fun q45=>some (.nxt q45)) (some (.nxt u37))
def m_chord_moved_l1 (a0:Int) (a1:(List Int)) (a2:(List Int)) (i2:Nat) (x3:Int) (u6:(List TFault)):Option (Flow (List TFault) (List TFault)) :=
  (ifB (x3==4) (some (.inl 0)) (some (.inl 7)):Option (Int ⊕ (Flow (List TFault) (List TFault)))).bind fun k13=>Sum.fin k13 fun u11=>(rangeM (m_chord_moved_l2 a0 a1 a2 x3 u11) 0 a2 u6).bind fun f20=>Flow.fin f20 fun u17=>some (.nxt u17)
def m_chord_moved (a0:Int) (a1:(List Int)) (a2:(List Int)) (a3:Int):Option (List TFault) :=
  (rangeM (m_chord_moved_l1 a0 a1 a2) 0 [3,4] []).bind fun f9=>Flow.fin f9 fun u6=>(rangeM (m_chord_moved_l4 a0 a1 a3) 0 a2 u6).bind fun f40=>Flow.fin f40 fun u37=>some u37
def m_chord_moves_l1 (a0:(List Int)) (i1:Nat) (x2:Int) (u4:Int):Option (Flow Int Int) :=
  (getI a0 (i1:Int)).bind fun e8=>(m_chord_size (w64 (x2 - e8))).bind fun y9=>some (.nxt (w64 (u4+y9)))
def m_chord_moves (a0:(List Int)) (a1:(List Int)):Option Int :=
  (rangeM (m_chord_moves_l1 a0) 0 a1 0).bind fun f7=>Flow.fin f7 fun u4=>some u4
def m_chord_by_l1 (a0:(List Int)) (a2:Int) (i1:Nat) (x2:Int) (u4:Unit):Option (Flow Unit Int) :=
  (getI a0 (i1:Int)).bind fun e8=>(m_chord_size (w64 (x2 - e8))).bind fun y9=>ifB (decide (y9>a2)) (some (.ret (-1))) (some (.nxt ()))
def m_chord_by (a0:(List Int)) (a1:(List Int)) (a2:Int) (a3:Int):Option Int :=
  ifB (a3==(-1)) (some (-1)) ((rangeM (m_chord_by_l1 a0 a2) 0 a1 ()).bind fun f7=>Flow.fin f7 fun u4=>(m_chord_moved 0 a0 a1 a2).bind fun y10=>ifB (decide ((y10.length:Int)>0)) (some (-1)) ((m_chord_moves a0 a1).bind fun y12=>some (w64 (y12+a3))))
def m_chord_rests_l3 (a1:Int) (x21:(List Int)) (u23:(List (List Int))) (u14:(Int × (List (List Int)))) (i29:Nat) (x30:(List Int)) (u32:Int):Option (Flow Int (Flow (List (List Int)) (Flow (Int × (List (List Int))) (List (List Int))))) :=
  (getI u23 (w64 (u14.1+1))).bind fun e36=>(getI e36 (i29:Int)).bind fun e37=>(m_chord_by x21 x30 a1 e37).bind fun y38=>(ifB (y38 != (-1)) (ifB (u32==(-1)) (some (.inl true)) (some (.inl (decide (y38<u32))))) (some (.inl false)):Option (Bool ⊕ (Flow Int (Flow (List (List Int)) (Flow (Int × (List (List Int))) (List (List Int))))))).bind fun k41=>Sum.fin k41 fun u39=>ifB u39 (some (.nxt y38)) (some (.nxt u32))
def m_chord_rests_l2 (a0:(List (List (List Int)))) (a1:Int) (u14:(Int × (List (List Int)))) (i20:Nat) (x21:(List Int)) (u23:(List (List Int))):Option (Flow (List (List Int)) (Flow (Int × (List (List Int))) (List (List Int)))) :=
  (getI a0 (w64 (u14.1+1))).bind fun e28=>(rangeM (m_chord_rests_l3 a1 x21 u23 u14) 0 e28 (-1)).bind fun f35=>Flow.fin f35 fun u32=>(getI u23 u14.1).bind fun e42=>(appM 8 e42 [u32]).bind fun q46=>(getI u23 u14.1).bind fun e48=>some (.nxt (u23.set u14.1.toNat q46))
def m_chord_rests_l1 (a0:(List (List (List Int)))) (a1:Int) (u14:(Int × (List (List Int)))):Option (Flow (Int × (List (List Int))) (List (List Int))) :=
  ifB (decide (u14.1≥0)) ((getI a0 u14.1).bind fun e19=>(rangeM (m_chord_rests_l2 a0 a1 u14) 0 e19 u14.2).bind fun f26=>Flow.fin f26 fun u23=>some (.nxt (w64 (u14.1 - 1),u23))) (some (.brk (u14.1,u14.2)))
def m_chord_rests (a0:(List (List (List Int)))) (a1:Int):Option (List (List Int)) :=
  (makeM 24 ([]:(List Int)) (a0.length:Int)).bind fun q4=>(getI a0 (w64 ((a0.length:Int) - 1))).bind fun e6=>(makeM 8 (0:Int) (e6.length:Int)).bind fun q7=>(getI q4 (w64 ((a0.length:Int) - 1))).bind fun e9=>(loopM (m_chord_rests_l1 a0 a1) (w64 ((w64 ((a0.length:Int) - 1)) - 1),(q4.set ((w64 ((a0.length:Int) - 1)).toNat) q7))).bind fun f17=>Flow.fin f17 fun u14=>some u14.2
def m_chord_Best_l4 (a2:Int) (u7:(List (List (List Int)))) (y41:(List (List Int))) (e68:(List Int)) (u63:(Int × Int × (List (List Int)))) (u69:Int):Option (Flow Int (Flow (Int × Int × (List (List Int))) ((List (List Int)) × Int × Bool × Int))) :=
  (getI u7 u63.1).bind fun e74=>(getI e74 u69).bind fun e75=>(getI y41 u63.1).bind fun e76=>(getI e76 u69).bind fun e77=>(m_chord_by e68 e75 a2 e77).bind fun y78=>ifB (y78 != u63.2.1) (some (.nxt (w64 (u69+1)))) (some (.brk u69))
def m_chord_Best_l3 (a0:(List TChord)) (a2:Int) (u7:(List (List (List Int)))) (y41:(List (List Int))) (u63:(Int × Int × (List (List Int)))):Option (Flow (Int × Int × (List (List Int))) ((List (List Int)) × Int × Bool × Int)) :=
  ifB (decide (u63.1<(a0.length:Int))) ((getI u63.2.2 (w64 ((u63.2.2.length:Int) - 1))).bind fun e68=>(loopM (m_chord_Best_l4 a2 u7 y41 e68 u63) 0).bind fun f72=>Flow.fin f72 fun u69=>(getI u7 u63.1).bind fun e79=>(getI e79 u69).bind fun e80=>(appM 24 u63.2.2 [e80]).bind fun q82=>(getI y41 u63.1).bind fun e85=>(getI e85 u69).bind fun e86=>some (.nxt (w64 (u63.1+1),e86,q82))) (some (.brk (u63.1,u63.2.1,u63.2.2)))
def m_chord_Best_l2 (y41:(List (List Int))) (i45:Nat) (x46:Int) (u48:Int):Option (Flow Int ((List (List Int)) × Int × Bool × Int)) :=
  (ifB (x46 != (-1)) (ifB (u48==(-1)) (some (.inl true)) ((getI y41 0).bind fun e55=>(getI e55 u48).bind fun e56=>some (.inl (decide (x46<e56))))) (some (.inl false)):Option (Bool ⊕ (Flow Int ((List (List Int)) × Int × Bool × Int)))).bind fun k54=>Sum.fin k54 fun u52=>ifB u52 (some (.nxt (i45:Int))) (some (.nxt u48))
def m_chord_Best_l1 (a1:(List TRange)) (i3:Nat) (x4:TChord) (u7:(List (List (List Int)))):Option (Flow (List (List (List Int))) ((List (List Int)) × Int × Bool × Int)) :=
  (m_chord_tones x4).bind fun y13=>(makeM 8 (0:Int) (a1.length:Int)).bind fun q16=>(m_chord_finder_find FUEL x4.Root x4.Kind x4.Turn a1 y13 [] []).bind fun y19=>ifB (decide ((y19.length:Int)>1000)) (some (.ret ([],0,false,12))) ((appM 24 u7 [y19]).bind fun q24=>some (.nxt q24))
def m_chord_Best (a0:(List TChord)) (a1:(List TRange)) (a2:Int):Option ((List (List Int)) × Int × Bool × Int) :=
  (m_chord_bestFault a0 a1 a2).bind fun y1=>ifB (y1 != 0) (some ([],0,false,y1)) ((rangeM (m_chord_Best_l1 a1) 0 a0 []).bind fun f10=>Flow.fin f10 fun u7=>(m_chord_rests u7 a2).bind fun y41=>(getI y41 0).bind fun e44=>(rangeM (m_chord_Best_l2 y41) 0 e44 (-1)).bind fun f51=>Flow.fin f51 fun u48=>ifB (u48==(-1)) (some ([],0,false,0)) ((getI u7 0).bind fun e58=>(getI e58 u48).bind fun e59=>(getI y41 0).bind fun e61=>(getI e61 u48).bind fun e62=>(loopM (m_chord_Best_l3 a0 a2 u7 y41) (1,e62,[e59])).bind fun f66=>Flow.fin f66 fun u63=>some (u63.2.2,e62,true,0)))
def m_chord_voicesFault_1 (a0:Int):Option Bool :=
  (m_kit_Outside a0 0 127).bind fun y1=>some y1
def m_slices_IndexFunc_int_int__chord_voicesFault_1_l1  (i1:Nat) (x2:Int) (u4:Unit):Option (Flow Unit Int) :=
  (m_chord_voicesFault_1 x2).bind fun y8=>ifB y8 (some (.ret (i1:Int))) (some (.nxt ()))
def m_slices_IndexFunc_int_int__chord_voicesFault_1 (a0:(List Int)):Option Int :=
  (rangeM m_slices_IndexFunc_int_int__chord_voicesFault_1_l1 0 a0 ()).bind fun f7=>Flow.fin f7 fun u4=>some (-1)
def m_slices_ContainsFunc_int_int__chord_voicesFault_1 (a0:(List Int)):Option Bool :=
  (m_slices_IndexFunc_int_int__chord_voicesFault_1 a0).bind fun y1=>some (decide (y1≥0))
def m_chord_voicesFault_l2  (i13:Nat) (x14:(List Int)) (u16:Unit):Option (Flow Unit Int) :=
  (m_slices_ContainsFunc_int_int__chord_voicesFault_1 x14).bind fun y20=>ifB y20 (some (.ret 1)) (some (.nxt ()))
def m_chord_voicesFault_l1 (a0:(List (List Int))) (i1:Nat) (x2:(List Int)) (u4:Unit):Option (Flow Unit Int) :=
  ((m_kit_Outside (x2.length:Int) 1 5).bind fun y11=>ifB y11 (some (.inl true)) ((getI a0 0).bind fun e12=>some (.inl ((x2.length:Int) != (e12.length:Int)))):Option (Bool ⊕ (Flow Unit Int))).bind fun k10=>Sum.fin k10 fun u8=>ifB u8 (some (.ret 3)) (some (.nxt ()))
def m_chord_voicesFault (a0:(List (List Int))):Option Int :=
  ifB (decide ((a0.length:Int)>144)) (some 2) ((rangeM (m_chord_voicesFault_l1 a0) 0 a0 ()).bind fun f7=>Flow.fin f7 fun u4=>(rangeM m_chord_voicesFault_l2 0 a0 ()).bind fun f19=>Flow.fin f19 fun u16=>some 0)
def m_chord_still_l2 (a0:Int) (a1:(List Int)) (u16:(Int × (List TFault))):Option (Flow (Int × (List TFault)) (List TFault)) :=
  ifB (decide (u16.1<(w64 ((a1.length:Int) - 1)))) ((getI a1 (w64 (u16.1+1))).bind fun e21=>(getI a1 u16.1).bind fun e22=>(m_chord_size (w64 (e21 - e22))).bind fun y23=>ifB (decide (y23>12)) ((appM 32 u16.2 [(TFault.mk a0 2 u16.1 (w64 (u16.1+1)))]).bind fun q25=>some (.nxt (w64 (u16.1+1),q25))) (some (.nxt (w64 (u16.1+1),u16.2)))) (some (.brk (u16.1,u16.2)))
def m_chord_still_l1 (a0:Int) (a1:(List Int)) (i1:Nat) (x2:Nat) (u5:(List TFault)):Option (Flow (List TFault) (List TFault)) :=
  (getI a1 (i1:Int)).bind fun e10=>(getI a1 (w64 ((i1:Int)+1))).bind fun e11=>ifB (decide (e10>e11)) ((appM 32 u5 [(TFault.mk a0 1 (i1:Int) (w64 ((i1:Int)+1)))]).bind fun q13=>some (.nxt q13)) (some (.nxt u5))
def m_chord_still (a0:Int) (a1:(List Int)):Option (List TFault) :=
  (rangeI (w64 ((a1.length:Int) - 1))).bind fun L28=>(rangeM (m_chord_still_l1 a0 a1) 0 L28 []).bind fun f8=>Flow.fin f8 fun u5=>(loopM (m_chord_still_l2 a0 a1) (1,u5)).bind fun f19=>Flow.fin f19 fun u16=>some u16.2
def m_chord_Faults_l1 (a0:(List (List Int))) (a1:Int) (i5:Nat) (x6:(List Int)) (u9:(List TFault)):Option (Flow (List TFault) ((List TFault) × Int)) :=
  (m_chord_still (i5:Int) x6).bind fun y14=>(appM 32 u9 y14).bind fun q16=>ifB (decide ((i5:Int)>0)) ((getI a0 (w64 ((i5:Int) - 1))).bind fun e18=>(m_chord_moved (i5:Int) e18 x6 a1).bind fun y19=>(appM 32 q16 y19).bind fun q21=>some (.nxt q21)) (some (.nxt q16))
def m_chord_Faults (a0:(List (List Int))) (a1:Int):Option ((List TFault) × Int) :=
  (m_chord_voicesFault a0).bind fun y1=>ifB (y1 != 0) (some ([],y1)) ((m_kit_Outside a1 0 24).bind fun y3=>ifB y3 (some ([],1)) ((rangeM (m_chord_Faults_l1 a0 a1) 0 a0 []).bind fun f12=>Flow.fin f12 fun u9=>some (u9,0)))
def m_slices_Equal_api_Chord_api_Chord_l1 (a1:(List TChord)) (i1:Nat) (x2:TChord) (u4:Unit):Option (Flow Unit Bool) :=
  (getI a1 (i1:Int)).bind fun e8=>ifB (!(decide (x2=e8))) (some (.ret false)) (some (.nxt ()))
def m_slices_Equal_api_Chord_api_Chord (a0:(List TChord)) (a1:(List TChord)):Option Bool :=
  ifB ((a0.length:Int) != (a1.length:Int)) (some false) ((rangeM (m_slices_Equal_api_Chord_api_Chord_l1 a1) 0 a0 ()).bind fun f7=>Flow.fin f7 fun u4=>some true)
def m_slices_Equal_api_Follow_api_Follow_l1 (a1:(List TFollow)) (i1:Nat) (x2:TFollow) (u4:Unit):Option (Flow Unit Bool) :=
  (getI a1 (i1:Int)).bind fun e8=>ifB (!(decide (x2=e8))) (some (.ret false)) (some (.nxt ()))
def m_slices_Equal_api_Follow_api_Follow (a0:(List TFollow)) (a1:(List TFollow)):Option Bool :=
  ifB ((a0.length:Int) != (a1.length:Int)) (some false) ((rangeM (m_slices_Equal_api_Follow_api_Follow_l1 a1) 0 a0 ()).bind fun f7=>Flow.fin f7 fun u4=>some true)
def m_slices_Equal_api_Range_api_Range_l1 (a1:(List TRange)) (i1:Nat) (x2:TRange) (u4:Unit):Option (Flow Unit Bool) :=
  (getI a1 (i1:Int)).bind fun e8=>ifB (!(decide (x2=e8))) (some (.ret false)) (some (.nxt ()))
def m_slices_Equal_api_Range_api_Range (a0:(List TRange)) (a1:(List TRange)):Option Bool :=
  ifB ((a0.length:Int) != (a1.length:Int)) (some false) ((rangeM (m_slices_Equal_api_Range_api_Range_l1 a1) 0 a0 ()).bind fun f7=>Flow.fin f7 fun u4=>some true)
def m_slices_EqualFunc_int_int_int_int__slices_Equal_int_int_l1 (a1:(List (List Int))) (i1:Nat) (x2:(List Int)) (u4:Unit):Option (Flow Unit Bool) :=
  (getI a1 (i1:Int)).bind fun e8=>(m_slices_Equal_int_int x2 e8).bind fun y9=>ifB (!y9) (some (.ret false)) (some (.nxt ()))
def m_slices_EqualFunc_int_int_int_int__slices_Equal_int_int (a0:(List (List Int))) (a1:(List (List Int))):Option Bool :=
  ifB ((a0.length:Int) != (a1.length:Int)) (some false) ((rangeM (m_slices_EqualFunc_int_int_int_int__slices_Equal_int_int_l1 a1) 0 a0 ()).bind fun f7=>Flow.fin f7 fun u4=>some true)
def m_piece_isUnit (a0:Int):Option Bool :=
  (m_slices_Contains_int_int [1,2,4,8,16] a0).bind fun y2=>some y2
def m_piece_barFault (a0:TBar):Option Int :=
  ((m_kit_Outside a0.Beats 1 16).bind fun y5=>ifB y5 (some (.inl true)) ((m_piece_isUnit a0.Unit).bind fun y6=>ifB (!y6) (some (.inl true)) (ifB (a0.Close != 0) ((m_kit_Outside a0.Close 2 9).bind fun y7=>ifB y7 (some (.inl true)) ((m_kit_Outside a0.Ending 0 9).bind fun y8=>some (.inl y8))) ((m_kit_Outside a0.Ending 0 9).bind fun y9=>some (.inl y9)))):Option (Bool ⊕ Int)).bind fun k4=>Sum.fin k4 fun u2=>ifB u2 (some 1) (some 0)
def m_piece_rulesFault_l1 (a0:(List TBar)) (i1:Nat) (x2:TBar) (u4:Bool):Option (Flow Bool Int) :=
  (m_piece_barFault x2).bind fun y9=>ifB (y9 != 0) (some (.ret y9)) ((ifB x2.Open (some (.inl u4)) (some (.inl false)):Option (Bool ⊕ (Flow Bool Int))).bind fun k12=>Sum.fin k12 fun u10=>ifB u10 (some (.ret 16)) ((ifB (!x2.Open) (ifB (!u4) (ifB (x2.Close != 0) (some (.inl true)) (some (.inl (x2.Ending != 0)))) (some (.inl false))) (some (.inl false)):Option (Bool ⊕ (Flow Bool Int))).bind fun k15=>Sum.fin k15 fun u13=>ifB u13 (some (.ret 16)) (ifB u4 ((getI a0 (w64 ((i1:Int) - 1))).bind fun e16=>ifB (decide (x2.Ending<e16.Ending)) (some (.ret 16)) (ifB u4 (some (.nxt (x2.Close==0))) (ifB x2.Open (some (.nxt (x2.Close==0))) (some (.nxt false))))) (ifB u4 (some (.nxt (x2.Close==0))) (ifB x2.Open (some (.nxt (x2.Close==0))) (some (.nxt false)))))))
def m_piece_rulesFault (a0:(List TBar)):Option Int :=
  (rangeM (m_piece_rulesFault_l1 a0) 0 a0 false).bind fun f7=>Flow.fin f7 fun u4=>some 0
def m_piece_repeats_l3 (x22:Tpiece_repeat) (i30:Nat) (x31:TBar) (u33:Unit):Option (Flow Unit (Flow Unit ((List Tpiece_repeat) × Bool))) :=
  (ifB (decide (x22.times>1)) (some (.inl (decide (x31.Ending>x22.times)))) (some (.inl false)):Option (Bool ⊕ (Flow Unit (Flow Unit ((List Tpiece_repeat) × Bool))))).bind fun k40=>Sum.fin k40 fun u38=>ifB u38 (some (.ret (.ret ([],false)))) (some (.nxt ()))
def m_piece_repeats_l2 (a0:(List TBar)) (i21:Nat) (x22:Tpiece_repeat) (u24:Unit):Option (Flow Unit ((List Tpiece_repeat) × Bool)) :=
  (sliceI a0 x22.from_ x22.to_).bind fun q29=>(rangeM (m_piece_repeats_l3 x22) 0 q29 ()).bind fun f36=>Flow.fin f36 fun u33=>some (.nxt ())
def m_piece_repeats_l1  (i1:Nat) (x2:TBar) (u5:(Int × (List Tpiece_repeat))):Option (Flow (Int × (List Tpiece_repeat)) ((List Tpiece_repeat) × Bool)) :=
  (ifB x2.Open (some (.inl (i1:Int))) (some (.inl u5.1)):Option (Int ⊕ (Flow (Int × (List Tpiece_repeat)) ((List Tpiece_repeat) × Bool)))).bind fun k13=>Sum.fin k13 fun u11=>ifB (decide (u11<0)) ((appM 24 u5.2 [(Tpiece_repeat.mk (i1:Int) (w64 ((i1:Int)+1)) 1)]).bind fun q15=>some (.nxt (u11,q15))) (ifB (decide (x2.Close>0)) ((appM 24 u5.2 [(Tpiece_repeat.mk u11 (w64 ((i1:Int)+1)) x2.Close)]).bind fun q18=>some (.nxt ((-1),q18))) (some (.nxt (u11,u5.2))))
def m_piece_repeats (a0:(List TBar)):Option ((List Tpiece_repeat) × Bool) :=
  (rangeM m_piece_repeats_l1 0 a0 ((-1),[])).bind fun f8=>Flow.fin f8 fun u5=>(rangeM (m_piece_repeats_l2 a0) 0 u5.2 ()).bind fun f27=>Flow.fin f27 fun u24=>some (u5.2,decide (u5.1<0))
def m_piece_order_l3 (a0:(List TBar)) (a2:Int) (x2:Tpiece_repeat) (u11:(Int × (List Int))) (u16:(Int × (List Int))):Option (Flow (Int × (List Int)) (Flow (Int × (List Int)) (Flow (List Int) (List Int)))) :=
  (ifB (decide (u16.1<x2.to_)) (some (.inl (decide ((u16.2.length:Int)≤a2)))) (some (.inl false)):Option (Bool ⊕ (Flow (Int × (List Int)) (Flow (Int × (List Int)) (Flow (List Int) (List Int)))))).bind fun k23=>Sum.fin k23 fun u21=>ifB u21 (((getI a0 u16.1).bind fun e27=>ifB (e27.Ending==0) (some (.inl true)) ((getI a0 u16.1).bind fun e28=>some (.inl (e28.Ending==u11.1))):Option (Bool ⊕ (Flow (Int × (List Int)) (Flow (Int × (List Int)) (Flow (List Int) (List Int)))))).bind fun k26=>Sum.fin k26 fun u24=>ifB u24 ((appM 8 u16.2 [u16.1]).bind fun q30=>some (.nxt (w64 (u16.1+1),q30))) (some (.nxt (w64 (u16.1+1),u16.2)))) (some (.brk (u16.1,u16.2)))
def m_piece_order_l2 (a0:(List TBar)) (a2:Int) (x2:Tpiece_repeat) (u11:(Int × (List Int))):Option (Flow (Int × (List Int)) (Flow (List Int) (List Int))) :=
  ifB (decide (u11.1≤x2.times)) ((loopM (m_piece_order_l3 a0 a2 x2 u11) (x2.from_,u11.2)).bind fun f19=>Flow.fin f19 fun u16=>some (.nxt (w64 (u11.1+1),u16.2))) (some (.brk (u11.1,u11.2)))
def m_piece_order_l1 (a0:(List TBar)) (a2:Int) (i1:Nat) (x2:Tpiece_repeat) (u5:(List Int)):Option (Flow (List Int) (List Int)) :=
  (loopM (m_piece_order_l2 a0 a2 x2) (1,u5)).bind fun f14=>Flow.fin f14 fun u11=>some (.nxt u11.2)
def m_piece_order (a0:(List TBar)) (a1:(List Tpiece_repeat)) (a2:Int):Option (List Int) :=
  (rangeM (m_piece_order_l1 a0 a2) 0 a1 []).bind fun f8=>Flow.fin f8 fun u5=>some u5
def m_piece_CheckBars (a0:(List TBar)):Option Int :=
  ifB ((a0.length:Int)==0) (some 8) (ifB (decide ((a0.length:Int)>300)) (some 2) ((m_piece_rulesFault a0).bind fun y1=>ifB (y1 != 0) (some y1) ((m_piece_repeats a0).bind fun y2=>ifB (!y2.2) (some 16) ((m_piece_order a0 y2.1 2000).bind fun y4=>ifB (decide ((y4.length:Int)>2000)) (some 2) (some 0)))))
def m_piece_played (a0:(List TBar)):Option (List Int) :=
  (m_piece_repeats a0).bind fun y1=>(m_piece_order a0 y1.1 2000).bind fun y3=>some y3
def m_piece_Order (a0:(List TBar)):Option ((List Int) × Int) :=
  (m_piece_CheckBars a0).bind fun y1=>ifB (y1 != 0) (some ([],y1)) ((m_piece_played a0).bind fun y3=>some (y3,0))
def m_chord_rootWords  : Option (List ByteArray) :=
  some [(ByteArray.mk [99].toArray),(ByteArray.mk [99,35].toArray),(ByteArray.mk [100].toArray),(ByteArray.mk [100,35].toArray),(ByteArray.mk [101].toArray),(ByteArray.mk [102].toArray),(ByteArray.mk [102,35].toArray),(ByteArray.mk [103].toArray),(ByteArray.mk [103,35].toArray),(ByteArray.mk [97].toArray),(ByteArray.mk [97,35].toArray),(ByteArray.mk [98].toArray)]
def m_chord_kindWords  : Option (List ByteArray) :=
  some [ByteArray.empty,(ByteArray.mk [109,97,106].toArray),(ByteArray.mk [109,105,110].toArray),(ByteArray.mk [100,105,109].toArray),(ByteArray.mk [97,117,103].toArray),(ByteArray.mk [55].toArray),(ByteArray.mk [109,97,106,55].toArray),(ByteArray.mk [109,105,110,55].toArray)]
def m_chord_Name (a0:TChord):Option (ByteArray × Int) :=
  (m_chord_CheckChord a0).bind fun y2=>ifB (y2 != 0) (some (ByteArray.empty,y2)) ((m_chord_rootWords.bind fun y6=>(getI y6 a0.Root).bind fun e8=>(catM e8 (ByteArray.mk [32].toArray)).bind fun c9=>m_chord_kindWords.bind fun y10=>(getI y10 a0.Kind).bind fun e12=>(catM c9 e12).bind fun c13=>some (.inl c13):Option (ByteArray ⊕ (ByteArray × Int))).bind fun k5=>Sum.fin k5 fun u3=>ifB (decide (a0.Turn>0)) ((m_strconv_Itoa a0.Turn).bind fun y18=>(catM (ByteArray.mk [47].toArray) y18).bind fun c19=>(catM u3 c19).bind fun c20=>some (c20,0)) (some (u3,0)))
def m_kit_IsMoment (a0:Int):Option Bool :=
  (m_kit_Outside a0 0 345686399999).bind fun y1=>some (!y1)
def m_kit_IsKey (a0:ByteArray):Option Bool :=
  ifB (!(a0.toList==ByteArray.empty.toList)) (ifB (decide ((a0.size:Int)≤40)) ((strI a0 0).bind fun c1=>(m_strings_IndexByte (ByteArray.mk [97,98,99,100,101,102,103,104,105,106,107,108,109,110,111,112,113,114,115,116,117,118,119,120,121,122].toArray) c1).bind fun y2=>ifB (decide (y2≥0)) ((m_strings_Trim a0 (ByteArray.mk [97,98,99,100,101,102,103,104,105,106,107,108,109,110,111,112,113,114,115,116,117,118,119,120,121,122,48,49,50,51,52,53,54,55,56,57,45,95].toArray)).bind fun y3=>some (y3.toList==ByteArray.empty.toList)) (some false)) (some false)) (some false)
def m_rehearse_flagNumber (a0:Bool):Option Int :=
  ifB a0 (some 1) (some 0)
def m_cmp_Or_int_l1  (i1:Nat) (x2:Int) (u4:Unit):Option (Flow Unit Int) :=
  ifB (x2 != 0) (some (.ret x2)) (some (.nxt ()))
def m_cmp_Or_int (a0:(List Int)):Option Int :=
  (rangeM m_cmp_Or_int_l1 0 a0 ()).bind fun f7=>Flow.fin f7 fun u4=>some 0
def m_rehearse_compareCame (a0:TCame) (a1:TCame):Option Int :=
  (m_cmp_Compare_int a0.At a1.At).bind fun y3=>(m_strings_Compare a0.Singer a1.Singer).bind fun y4=>(m_rehearse_flagNumber a0.Left).bind fun y5=>(m_rehearse_flagNumber a1.Left).bind fun y6=>(m_cmp_Compare_int y5 y6).bind fun y7=>(m_cmp_Or_int [y3,y4,y7]).bind fun y9=>some y9
def m_rehearse_CheckCame_l1 (a0:(List TCame)) (i1:Nat) (x2:TCame) (u4:Unit):Option (Flow Unit Int) :=
  (m_kit_IsMoment x2.At).bind fun y9=>ifB (!y9) (some (.ret 1)) ((m_kit_IsKey x2.Singer).bind fun y10=>ifB (!y10) (some (.ret 5)) (ifB (decide ((i1:Int)>0)) ((getI a0 (w64 ((i1:Int) - 1))).bind fun e11=>(m_rehearse_compareCame e11 x2).bind fun y12=>ifB (decide (y12≥0)) (some (.ret 7)) (some (.nxt ()))) (some (.nxt ()))))
def m_rehearse_CheckCame (a0:(List TCame)):Option Int :=
  ifB (decide ((a0.length:Int)>5000)) (some 2) ((rangeM (m_rehearse_CheckCame_l1 a0) 0 a0 ()).bind fun f7=>Flow.fin f7 fun u4=>some 0)
def m_rehearse_joined_l1  (i1:Nat) (x2:TWindow) (u5:(List TWindow)):Option (Flow (List TWindow) (List TWindow)) :=
  ifB (decide ((w64 ((u5.length:Int) - 1))≥0)) ((getI u5 (w64 ((u5.length:Int) - 1))).bind fun e11=>ifB (decide (x2.From≤e11.To)) ((getI u5 (w64 ((u5.length:Int) - 1))).bind fun e12=>(getI u5 (w64 ((u5.length:Int) - 1))).bind fun e13=>some (.nxt (u5.set ((w64 ((u5.length:Int) - 1)).toNat) (TWindow.mk e13.From (max e12.To x2.To))))) ((appM 16 u5 [x2]).bind fun q15=>some (.nxt q15))) ((appM 16 u5 [x2]).bind fun q18=>some (.nxt q18))
def m_rehearse_joined (a0:(List TWindow)):Option (List TWindow) :=
  (rangeM m_rehearse_joined_l1 0 a0 []).bind fun f8=>Flow.fin f8 fun u5=>some u5
def m_rehearse_presences_l3  (i50:Nat) (x51:ByteArray) (u57:(List (ByteArray × (List TWindow)))):Option (Flow (List (ByteArray × (List TWindow))) (List (ByteArray × (List TWindow)))) :=
  (m_rehearse_joined ((lkM u57 x51).getD [])).bind fun y62=>some (.nxt (putM u57 x51 y62))
def m_rehearse_presences_l2  (i33:Nat) (x34:(ByteArray × Int)) (u38:(List (ByteArray × (List TWindow)))):Option (Flow (List (ByteArray × (List TWindow))) (List (ByteArray × (List TWindow)))) :=
  (appM 16 ((lkM u38 x34.1).getD []) [(TWindow.mk x34.2 345686400000)]).bind fun q44=>some (.nxt (putM u38 x34.1 q44))
def m_rehearse_presences_l1  (i3:Nat) (x4:TCame) (u6:((List (ByteArray × Int)) × (List (ByteArray × (List TWindow))))):Option (Flow ((List (ByteArray × Int)) × (List (ByteArray × (List TWindow)))) (List (ByteArray × (List TWindow)))) :=
  (ifB (!x4.Left) (some (.inl (!(hasM u6.1 x4.Singer)))) (some (.inl false)):Option (Bool ⊕ (Flow ((List (ByteArray × Int)) × (List (ByteArray × (List TWindow)))) (List (ByteArray × (List TWindow)))))).bind fun k13=>Sum.fin k13 fun u11=>ifB u11 (some (.nxt (putM u6.1 x4.Singer x4.At,u6.2))) ((ifB x4.Left (some (.inl (hasM u6.1 x4.Singer))) (some (.inl false)):Option (Bool ⊕ (Flow ((List (ByteArray × Int)) × (List (ByteArray × (List TWindow)))) (List (ByteArray × (List TWindow)))))).bind fun k18=>Sum.fin k18 fun u16=>ifB u16 (ifB (decide (((lkM u6.1 x4.Singer).getD 0)<x4.At)) ((appM 16 ((lkM u6.2 x4.Singer).getD []) [(TWindow.mk ((lkM u6.1 x4.Singer).getD 0) x4.At)]).bind fun q22=>some (.nxt (delM u6.1 x4.Singer,putM u6.2 x4.Singer q22))) (some (.nxt (delM u6.1 x4.Singer,u6.2)))) (some (.nxt (u6.1,u6.2))))
def m_rehearse_presences (a0:(List TCame)):Option (List (ByteArray × (List TWindow))) :=
  (rangeM m_rehearse_presences_l1 0 a0 ([],[])).bind fun f9=>Flow.fin f9 fun u6=>anyOrd u6.1 fun L41=>(rangeM m_rehearse_presences_l2 0 L41 u6.2).bind fun f69=>Flow.fin f69 fun u38=>anyOrd (u38.map Prod.fst) fun L60=>(rangeM m_rehearse_presences_l3 0 L60 u38).bind fun f68=>Flow.fin f68 fun u57=>some (canonM u57)
def m_kit_Has (a0:TWindow) (a1:Int):Option Bool :=
  ifB (decide (a0.From≤a1)) (some (decide (a1<a0.To))) (some false)
def m_rehearse_There_1 (a0:TWindow) (a1_0:Int):Option Bool :=
  (m_kit_Has a0 a1_0).bind fun y2=>some y2
def m_slices_IndexFunc_api_Window_api_Window__rehearse_There_1_l1 (a1_c0_0:Int) (i1:Nat) (x2:TWindow) (u4:Unit):Option (Flow Unit Int) :=
  (m_rehearse_There_1 x2 a1_c0_0).bind fun y8=>ifB y8 (some (.ret (i1:Int))) (some (.nxt ()))
def m_slices_IndexFunc_api_Window_api_Window__rehearse_There_1 (a0:(List TWindow)) (a1_c0_0:Int):Option Int :=
  (rangeM (m_slices_IndexFunc_api_Window_api_Window__rehearse_There_1_l1 a1_c0_0) 0 a0 ()).bind fun f7=>Flow.fin f7 fun u4=>some (-1)
def m_slices_ContainsFunc_api_Window_api_Window__rehearse_There_1 (a0:(List TWindow)) (a1_c0_0:Int):Option Bool :=
  (m_slices_IndexFunc_api_Window_api_Window__rehearse_There_1 a0 a1_c0_0).bind fun y1=>some (decide (y1≥0))
noncomputable def m_slices_Sorted_string__maps_Keys_map_string_bool_string_bool_1 (a0_c0_0:(List (ByteArray × Bool))):Option (List ByteArray) :=
  if a0_c0_0.length≤1000000000 then m_slices_Sort_string_string (a0_c0_0.map Prod.fst) else none
def m_rehearse_There_l1 (a1:Int) (q12:(List (ByteArray × (List TWindow)))) (i16:Nat) (x17:ByteArray) (u23:(List (ByteArray × Bool))):Option (Flow (List (ByteArray × Bool)) ((List ByteArray) × Int)) :=
  (m_slices_ContainsFunc_api_Window_api_Window__rehearse_There_1 ((lkM q12 x17).getD []) a1).bind fun y28=>ifB y28 (some (.nxt (putM u23 x17 true))) (some (.nxt u23))
def m_rehearse_There (a0:(List TCame)) (a1:Int):Option ((List ByteArray) × Int) :=
  (m_rehearse_CheckCame a0).bind fun y2=>ifB (y2 != 0) (some ([],y2)) ((m_kit_IsMoment a1).bind fun y4=>ifB (!y4) (some ([],1)) ((m_rehearse_presences a0).bind fun y7=>anyOrd y7 fun q12=>anyOrd (q12.map Prod.fst) fun L26=>(rangeM (m_rehearse_There_l1 a1 q12) 0 L26 []).bind fun f34=>Flow.fin f34 fun u23=>(m_slices_Sorted_string__maps_Keys_map_string_bool_string_bool_1 u23).bind fun y32=>some (y32,0)))
def m_concert_CheckItems_1 (a0:TItem) (a1_0:ByteArray) (a1_1:ByteArray) (a1_2:Int) (a1_3:(List ByteArray)):Option Bool :=
  some (a0.Key.toList==a1_0.toList)
def m_slices_IndexFunc_api_Item_api_Item__concert_CheckItems_1_l1 (a1_c0_0:ByteArray) (a1_c0_1:ByteArray) (a1_c0_2:Int) (a1_c0_3:(List ByteArray)) (i1:Nat) (x2:TItem) (u4:Unit):Option (Flow Unit Int) :=
  (m_concert_CheckItems_1 x2 a1_c0_0 a1_c0_1 a1_c0_2 a1_c0_3).bind fun y8=>ifB y8 (some (.ret (i1:Int))) (some (.nxt ()))
def m_slices_IndexFunc_api_Item_api_Item__concert_CheckItems_1 (a0:(List TItem)) (a1_c0_0:ByteArray) (a1_c0_1:ByteArray) (a1_c0_2:Int) (a1_c0_3:(List ByteArray)):Option Int :=
  (rangeM (m_slices_IndexFunc_api_Item_api_Item__concert_CheckItems_1_l1 a1_c0_0 a1_c0_1 a1_c0_2 a1_c0_3) 0 a0 ()).bind fun f7=>Flow.fin f7 fun u4=>some (-1)
def m_slices_ContainsFunc_api_Item_api_Item__concert_CheckItems_1 (a0:(List TItem)) (a1_c0_0:ByteArray) (a1_c0_1:ByteArray) (a1_c0_2:Int) (a1_c0_3:(List ByteArray)):Option Bool :=
  (m_slices_IndexFunc_api_Item_api_Item__concert_CheckItems_1 a0 a1_c0_0 a1_c0_1 a1_c0_2 a1_c0_3).bind fun y1=>some (decide (y1≥0))
def m_concert_partsFault_l1 (a0:(List ByteArray)) (i1:Nat) (x2:ByteArray) (u4:Unit):Option (Flow Unit Int) :=
  (m_kit_IsKey x2).bind fun y8=>ifB (!y8) (some (.ret 5)) ((ifB (decide ((i1:Int)>0)) ((getI a0 (w64 ((i1:Int) - 1))).bind fun e12=>some (.inl (Op.bytesLess x2.toList e12.toList||x2.toList==e12.toList))) (some (.inl false)):Option (Bool ⊕ (Flow Unit Int))).bind fun k11=>Sum.fin k11 fun u9=>ifB u9 (some (.ret 7)) (some (.nxt ())))
def m_concert_partsFault (a0:(List ByteArray)):Option Int :=
  ifB ((a0.length:Int)==0) (some 8) (ifB (decide ((a0.length:Int)>12)) (some 2) ((rangeM (m_concert_partsFault_l1 a0) 0 a0 ()).bind fun f7=>Flow.fin f7 fun u4=>some 0))
def m_concert_CheckItems_l1 (a0:(List TItem)) (i1:Nat) (x2:TItem) (u4:Unit):Option (Flow Unit Int) :=
  ((m_kit_IsKey x2.Key).bind fun y12=>ifB (!y12) (some (.inl true)) ((m_kit_IsKey x2.Places).bind fun y13=>some (.inl (!y13))):Option (Bool ⊕ (Flow Unit Int))).bind fun k11=>Sum.fin k11 fun u9=>ifB u9 (some (.ret 5)) ((sliceI a0 0 (i1:Int)).bind fun q14=>(m_slices_ContainsFunc_api_Item_api_Item__concert_CheckItems_1 q14 x2.Key x2.Places x2.Long x2.Parts).bind fun y15=>ifB y15 (some (.ret 6)) ((m_kit_Outside x2.Long 1 86400000).bind fun y16=>ifB y16 (some (.ret 1)) ((m_concert_partsFault x2.Parts).bind fun y17=>ifB (y17 != 0) (some (.ret y17)) (some (.nxt ())))))
def m_concert_CheckItems (a0:(List TItem)):Option Int :=
  ifB (decide ((a0.length:Int)>60)) (some 2) ((rangeM (m_concert_CheckItems_l1 a0) 0 a0 ()).bind fun f7=>Flow.fin f7 fun u4=>some 0)
def m_concert_CheckProgram (a0:TProgram):Option Int :=
  (m_concert_CheckItems a0.Items).bind fun y2=>ifB (y2 != 0) (some y2) (((m_kit_Outside a0.Change 0 86400000).bind fun y6=>ifB y6 (some (.inl true)) ((m_kit_Outside a0.Clap 0 86400000).bind fun y7=>ifB y7 (some (.inl true)) ((m_kit_Outside a0.Break 0 86400000).bind fun y8=>ifB y8 (some (.inl true)) ((m_kit_Outside a0.Half (-1) (max (-1) (w64 ((a0.Items.length:Int) - 2)))).bind fun y9=>some (.inl y9)))):Option (Bool ⊕ Int)).bind fun k5=>Sum.fin k5 fun u3=>ifB u3 (some 1) (some 0))
def m_concert_change (a0:TProgram) (a1:TItem) (a2:TItem):Option Int :=
  ifB (!(a1.Places.toList==a2.Places.toList)) (some a0.Change) (some a0.Clap)
def m_concert_behind (a0:TProgram) (a1:Int):Option Int :=
  ifB (a1==a0.Half) (some a0.Break) ((getI a0.Items a1).bind fun e2=>(getI a0.Items (w64 (a1+1))).bind fun e3=>(m_concert_change a0 e2 e3).bind fun y4=>some y4)
def m_concert_begins_l1 (a0:TProgram) (i2:Nat) (x3:TItem) (u6:(Int × (List Int))):Option (Flow (Int × (List Int)) ((List Int) × Int)) :=
  (appM 8 u6.2 [u6.1]).bind fun q13=>ifB (decide ((w64 ((i2:Int)+1))<(a0.Items.length:Int))) ((m_concert_behind a0 (i2:Int)).bind fun y15=>some (.nxt (w64 ((w64 (u6.1+x3.Long))+y15),q13))) (some (.nxt (w64 (u6.1+x3.Long),q13)))
def m_concert_begins (a0:TProgram):Option ((List Int) × Int) :=
  (rangeM (m_concert_begins_l1 a0) 0 a0.Items (0,[])).bind fun f9=>Flow.fin f9 fun u6=>some (u6.2,u6.1)
def m_concert_Long (a0:TProgram):Option (Int × Int) :=
  (m_concert_CheckProgram a0).bind fun y2=>ifB (y2 != 0) (some (0,y2)) ((m_concert_begins a0).bind fun y3=>some (y3.2,0))
def m_club_usesOf (a0:Int):Option Tclub_uses :=
  ifB (a0==1) (ifB (a0==4) (ifB (a0==1) (some (Tclub_uses.mk true true true (a0==5) (a0==7))) (some (Tclub_uses.mk true true (a0==3) (a0==5) (a0==7)))) (ifB (a0==5) (ifB (a0==1) (some (Tclub_uses.mk true true true (a0==5) (a0==7))) (some (Tclub_uses.mk true true (a0==3) (a0==5) (a0==7)))) (ifB (a0==1) (some (Tclub_uses.mk true (a0==6) true (a0==5) (a0==7))) (some (Tclub_uses.mk true (a0==6) (a0==3) (a0==5) (a0==7)))))) (ifB (a0==2) (ifB (a0==4) (ifB (a0==1) (some (Tclub_uses.mk true true true (a0==5) (a0==7))) (some (Tclub_uses.mk true true (a0==3) (a0==5) (a0==7)))) (ifB (a0==5) (ifB (a0==1) (some (Tclub_uses.mk true true true (a0==5) (a0==7))) (some (Tclub_uses.mk true true (a0==3) (a0==5) (a0==7)))) (ifB (a0==1) (some (Tclub_uses.mk true (a0==6) true (a0==5) (a0==7))) (some (Tclub_uses.mk true (a0==6) (a0==3) (a0==5) (a0==7)))))) (ifB (a0==3) (ifB (a0==4) (ifB (a0==1) (some (Tclub_uses.mk true true true (a0==5) (a0==7))) (some (Tclub_uses.mk true true (a0==3) (a0==5) (a0==7)))) (ifB (a0==5) (ifB (a0==1) (some (Tclub_uses.mk true true true (a0==5) (a0==7))) (some (Tclub_uses.mk true true (a0==3) (a0==5) (a0==7)))) (ifB (a0==1) (some (Tclub_uses.mk true (a0==6) true (a0==5) (a0==7))) (some (Tclub_uses.mk true (a0==6) (a0==3) (a0==5) (a0==7)))))) (ifB (a0==4) (ifB (a0==1) (some (Tclub_uses.mk (a0==5) true true (a0==5) (a0==7))) (some (Tclub_uses.mk (a0==5) true (a0==3) (a0==5) (a0==7)))) (ifB (a0==5) (ifB (a0==1) (some (Tclub_uses.mk (a0==5) true true (a0==5) (a0==7))) (some (Tclub_uses.mk (a0==5) true (a0==3) (a0==5) (a0==7)))) (ifB (a0==1) (some (Tclub_uses.mk (a0==5) (a0==6) true (a0==5) (a0==7))) (some (Tclub_uses.mk (a0==5) (a0==6) (a0==3) (a0==5) (a0==7))))))))
def m_club_formed (a0:TAct):Option Int :=
  (m_kit_IsKey a0.Site).bind fun y2=>ifB (!y2) (some 5) (((m_kit_Outside a0.No 1 1000000).bind fun y6=>ifB y6 (some (.inl true)) ((m_kit_IsMoment a0.At).bind fun y7=>some (.inl (!y7))):Option (Bool ⊕ Int)).bind fun k5=>Sum.fin k5 fun u3=>ifB u3 (some 1) ((m_kit_Outside a0.Kind 1 7).bind fun y8=>ifB y8 (some 4) ((m_club_usesOf a0.Kind).bind fun y9=>(ifB (a0.Kind==3) (some (.inl 1)) (some (.inl 0)):Option (Int ⊕ Int)).bind fun k13=>Sum.fin k13 fun u11=>(ifB y9.who ((m_kit_IsKey a0.Who).bind fun y17=>ifB (!y17) (some (.inl true)) (ifB y9.motion ((m_kit_IsKey a0.Motion).bind fun y18=>ifB (!y18) (some (.inl true)) (ifB y9.undo ((m_kit_IsKey a0.Of).bind fun y19=>some (.inl (!y19))) (some (.inl false)))) (ifB y9.undo ((m_kit_IsKey a0.Of).bind fun y20=>some (.inl (!y20))) (some (.inl false))))) (ifB y9.motion ((m_kit_IsKey a0.Motion).bind fun y21=>ifB (!y21) (some (.inl true)) (ifB y9.undo ((m_kit_IsKey a0.Of).bind fun y22=>some (.inl (!y22))) (some (.inl false)))) (ifB y9.undo ((m_kit_IsKey a0.Of).bind fun y23=>some (.inl (!y23))) (some (.inl false)))):Option (Bool ⊕ Int)).bind fun k16=>Sum.fin k16 fun u14=>ifB u14 (some 5) ((ifB y9.cents ((m_kit_Outside a0.Cents u11 1000000000).bind fun y27=>ifB y27 (some (.inl true)) (ifB y9.undo ((m_kit_Outside a0.Other 1 1000000).bind fun y28=>some (.inl y28)) (some (.inl false)))) (ifB y9.undo ((m_kit_Outside a0.Other 1 1000000).bind fun y29=>some (.inl y29)) (some (.inl false))):Option (Bool ⊕ Int)).bind fun k26=>Sum.fin k26 fun u24=>ifB u24 (some 1) ((ifB (!y9.who) (ifB (!(a0.Who.toList==ByteArray.empty.toList)) (some (.inl true)) (ifB (!y9.motion) (ifB (!(a0.Motion.toList==ByteArray.empty.toList)) (some (.inl true)) (ifB (!y9.cents) (ifB (a0.Cents != 0) (some (.inl true)) (ifB (!y9.yes) (ifB a0.Yes (some (.inl true)) (ifB (!y9.undo) (ifB (!(a0.Of.toList==ByteArray.empty.toList)) (some (.inl true)) (some (.inl (a0.Other != 0)))) (some (.inl false)))) (ifB (!y9.undo) (ifB (!(a0.Of.toList==ByteArray.empty.toList)) (some (.inl true)) (some (.inl (a0.Other != 0)))) (some (.inl false))))) (ifB (!y9.yes) (ifB a0.Yes (some (.inl true)) (ifB (!y9.undo) (ifB (!(a0.Of.toList==ByteArray.empty.toList)) (some (.inl true)) (some (.inl (a0.Other != 0)))) (some (.inl false)))) (ifB (!y9.undo) (ifB (!(a0.Of.toList==ByteArray.empty.toList)) (some (.inl true)) (some (.inl (a0.Other != 0)))) (some (.inl false)))))) (ifB (!y9.cents) (ifB (a0.Cents != 0) (some (.inl true)) (ifB (!y9.yes) (ifB a0.Yes (some (.inl true)) (ifB (!y9.undo) (ifB (!(a0.Of.toList==ByteArray.empty.toList)) (some (.inl true)) (some (.inl (a0.Other != 0)))) (some (.inl false)))) (ifB (!y9.undo) (ifB (!(a0.Of.toList==ByteArray.empty.toList)) (some (.inl true)) (some (.inl (a0.Other != 0)))) (some (.inl false))))) (ifB (!y9.yes) (ifB a0.Yes (some (.inl true)) (ifB (!y9.undo) (ifB (!(a0.Of.toList==ByteArray.empty.toList)) (some (.inl true)) (some (.inl (a0.Other != 0)))) (some (.inl false)))) (ifB (!y9.undo) (ifB (!(a0.Of.toList==ByteArray.empty.toList)) (some (.inl true)) (some (.inl (a0.Other != 0)))) (some (.inl false))))))) (ifB (!y9.motion) (ifB (!(a0.Motion.toList==ByteArray.empty.toList)) (some (.inl true)) (ifB (!y9.cents) (ifB (a0.Cents != 0) (some (.inl true)) (ifB (!y9.yes) (ifB a0.Yes (some (.inl true)) (ifB (!y9.undo) (ifB (!(a0.Of.toList==ByteArray.empty.toList)) (some (.inl true)) (some (.inl (a0.Other != 0)))) (some (.inl false)))) (ifB (!y9.undo) (ifB (!(a0.Of.toList==ByteArray.empty.toList)) (some (.inl true)) (some (.inl (a0.Other != 0)))) (some (.inl false))))) (ifB (!y9.yes) (ifB a0.Yes (some (.inl true)) (ifB (!y9.undo) (ifB (!(a0.Of.toList==ByteArray.empty.toList)) (some (.inl true)) (some (.inl (a0.Other != 0)))) (some (.inl false)))) (ifB (!y9.undo) (ifB (!(a0.Of.toList==ByteArray.empty.toList)) (some (.inl true)) (some (.inl (a0.Other != 0)))) (some (.inl false)))))) (ifB (!y9.cents) (ifB (a0.Cents != 0) (some (.inl true)) (ifB (!y9.yes) (ifB a0.Yes (some (.inl true)) (ifB (!y9.undo) (ifB (!(a0.Of.toList==ByteArray.empty.toList)) (some (.inl true)) (some (.inl (a0.Other != 0)))) (some (.inl false)))) (ifB (!y9.undo) (ifB (!(a0.Of.toList==ByteArray.empty.toList)) (some (.inl true)) (some (.inl (a0.Other != 0)))) (some (.inl false))))) (ifB (!y9.yes) (ifB a0.Yes (some (.inl true)) (ifB (!y9.undo) (ifB (!(a0.Of.toList==ByteArray.empty.toList)) (some (.inl true)) (some (.inl (a0.Other != 0)))) (some (.inl false)))) (ifB (!y9.undo) (ifB (!(a0.Of.toList==ByteArray.empty.toList)) (some (.inl true)) (some (.inl (a0.Other != 0)))) (some (.inl false)))))):Option (Bool ⊕ Int)).bind fun k32=>Sum.fin k32 fun u30=>ifB u30 (some 3) (some 0))))))
def m_club_compare (a0:TAct) (a1:TAct):Option Int :=
  (m_cmp_Compare_int a0.At a1.At).bind fun y3=>(m_strings_Compare a0.Site a1.Site).bind fun y4=>(m_cmp_Compare_int a0.No a1.No).bind fun y5=>(m_cmp_Or_int [y3,y4,y5]).bind fun y7=>some y7
def m_club_CheckActs_l2  (i13:Nat) (x14:TAct) (u16:(List (Tclub_own × Bool))):Option (Flow (List (Tclub_own × Bool)) Int) :=
  ifB ((lkM u16 (Tclub_own.mk x14.Site x14.No)).getD false) (some (.ret 6)) (some (.nxt (putM u16 (Tclub_own.mk x14.Site x14.No) true)))
def m_club_CheckActs_l1 (a0:(List TAct)) (i1:Nat) (x2:TAct) (u4:Unit):Option (Flow Unit Int) :=
  (m_club_formed x2).bind fun y9=>ifB (y9 != 0) (some (.ret y9)) (ifB (decide ((i1:Int)>0)) ((getI a0 (w64 ((i1:Int) - 1))).bind fun e10=>(m_club_compare e10 x2).bind fun y11=>ifB (decide (y11≥0)) (some (.ret 7)) (some (.nxt ()))) (some (.nxt ())))
def m_club_CheckActs (a0:(List TAct)):Option Int :=
  ifB (decide ((a0.length:Int)>2000)) (some 2) ((rangeM (m_club_CheckActs_l1 a0) 0 a0 ()).bind fun f7=>Flow.fin f7 fun u4=>(rangeM m_club_CheckActs_l2 0 a0 []).bind fun f19=>Flow.fin f19 fun u16=>some 0)
def m_club_askedFault (a0:(List TAct)) (a1:Int):Option Int :=
  (m_club_CheckActs a0).bind fun y1=>ifB (y1 != 0) (some y1) ((m_kit_IsMoment a1).bind fun y2=>ifB (!y2) (some 1) (some 0))
def m_slices_Reverse_int_int_l1  (u1:(Int × Int × (List Int))):Option (Flow (Int × Int × (List Int)) (List Int)) :=
  ifB (decide (u1.1<u1.2.1)) ((getI u1.2.2 u1.2.1).bind fun e5=>(getI u1.2.2 u1.1).bind fun e6=>(getI u1.2.2 u1.1).bind fun e7=>(getI (u1.2.2.set u1.1.toNat e5) u1.2.1).bind fun e8=>some (.nxt (w64 (u1.1+1),w64 (u1.2.1 - 1),((u1.2.2.set u1.1.toNat e5).set u1.2.1.toNat e6)))) (some (.brk (u1.1,u1.2.1,u1.2.2)))
def m_slices_Reverse_int_int (a0:(List Int)):Option (List Int) :=
  (loopM m_slices_Reverse_int_int_l1 (0,w64 ((a0.length:Int) - 1),a0)).bind fun f4=>Flow.fin f4 fun u1=>some u1.2.2
def m_club_counting_l1 (a1:Int) (i6:Nat) (x7:TAct) (u13:((List (Tclub_own × Bool)) × (List Int))):Option (Flow ((List (Tclub_own × Bool)) × (List Int)) (List Int)) :=
  (ifB (decide (x7.At>a1)) (some (.inl true)) (some (.inl ((lkM u13.1 (Tclub_own.mk x7.Site x7.No)).getD false))):Option (Bool ⊕ (Flow ((List (Tclub_own × Bool)) × (List Int)) (List Int)))).bind fun k21=>Sum.fin k21 fun u19=>ifB u19 (some (.nxt (u13.1,u13.2))) ((appM 8 u13.2 [(i6:Int)]).bind fun q23=>ifB (x7.Kind==7) (some (.nxt (putM u13.1 (Tclub_own.mk x7.Of x7.Other) true,q23))) (some (.nxt (u13.1,q23))))
def m_club_counting (a0:(List TAct)) (a1:Int):Option (List Int) :=
  (rangeB (m_club_counting_l1 a1) a0 ([],[])).bind fun f16=>Flow.fin f16 fun u13=>(m_slices_Reverse_int_int u13.2).bind fun y29=>some y29
def m_club_books_isMember (a0_0:Int) (a0_1:(List (ByteArray × (List Tclub_stay)))) (a0_2:(List (ByteArray × Int))) (a0_3:(List (ByteArray × (Bool × (List (ByteArray × Bool)) × (List ByteArray))))) (a0_4:(List Int)) (a1:ByteArray):Option Bool :=
  ifB (decide ((((lkM a0_1 a1).getD []).length:Int)>0)) ((getI ((lkM a0_1 a1).getD []) (w64 ((((lkM a0_1 a1).getD []).length:Int) - 1))).bind fun e1=>some (decide (e1.till<0))) (some false)
def m_club_books_isOpen (a0_0:Int) (a0_1:(List (ByteArray × (List Tclub_stay)))) (a0_2:(List (ByteArray × Int))) (a0_3:(List (ByteArray × (Bool × (List (ByteArray × Bool)) × (List ByteArray))))) (a0_4:(List Int)) (a1:ByteArray):Option Bool :=
  optB (lkM a0_3 a1) (some false) (fun t4=>some (!t4.1))
def m_club_books_permits (a0_0:Int) (a0_1:(List (ByteArray × (List Tclub_stay)))) (a0_2:(List (ByteArray × Int))) (a0_3:(List (ByteArray × (Bool × (List (ByteArray × Bool)) × (List ByteArray))))) (a0_4:(List Int)) (a1:TAct):Option Bool :=
  ifB (a1.Kind==1) ((m_club_books_isMember a0_0 a0_1 a0_2 a0_3 a0_4 a1.Who).bind fun y2=>some (!y2)) (ifB (a1.Kind==2) ((m_club_books_isMember a0_0 a0_1 a0_2 a0_3 a0_4 a1.Who).bind fun y3=>some y3) (ifB (a1.Kind==4) (optB (lkM a0_3 a1.Motion) (some true) (fun t7=>some false)) (ifB (a1.Kind==5) ((m_club_books_isMember a0_0 a0_1 a0_2 a0_3 a0_4 a1.Who).bind fun y15=>ifB y15 ((m_club_books_isOpen a0_0 a0_1 a0_2 a0_3 a0_4 a1.Motion).bind fun y16=>some y16) (some false)) (ifB (a1.Kind==6) ((m_club_books_isOpen a0_0 a0_1 a0_2 a0_3 a0_4 a1.Motion).bind fun y17=>some y17) (some true)))))
noncomputable def m_slices_Sorted_string__maps_Keys_map_string_club_stay_string_club_stay_1 (a0_c0_0:(List (ByteArray × (List Tclub_stay)))):Option (List ByteArray) :=
  if a0_c0_0.length≤1000000000 then m_slices_Sort_string_string (a0_c0_0.map Prod.fst) else none
def m_club_books_members_l1 (a0_0:Int) (a0_1:(List (ByteArray × (List Tclub_stay)))) (a0_2:(List (ByteArray × Int))) (a0_3:(List (ByteArray × (Bool × (List (ByteArray × Bool)) × (List ByteArray))))) (a0_4:(List Int)) (i4:Nat) (x5:ByteArray) (u8:(List ByteArray)):Option (Flow (List ByteArray) (List ByteArray)) :=
  (m_club_books_isMember a0_0 a0_1 a0_2 a0_3 a0_4 x5).bind fun y13=>ifB y13 ((appM 16 u8 [x5]).bind fun q15=>some (.nxt q15)) (some (.nxt u8))
def m_club_books_members (a0_0:Int) (a0_1:(List (ByteArray × (List Tclub_stay)))) (a0_2:(List (ByteArray × Int))) (a0_3:(List (ByteArray × (Bool × (List (ByteArray × Bool)) × (List ByteArray))))) (a0_4:(List Int)):Option (List ByteArray) :=
  (m_slices_Sorted_string__maps_Keys_map_string_club_stay_string_club_stay_1 a0_1).bind fun y2=>(rangeM (m_club_books_members_l1 a0_0 a0_1 a0_2 a0_3 a0_4) 0 y2 []).bind fun f11=>Flow.fin f11 fun u8=>some u8
def m_club_books_act (a0_0:Int) (a0_1:(List (ByteArray × (List Tclub_stay)))) (a0_2:(List (ByteArray × Int))) (a0_3:(List (ByteArray × (Bool × (List (ByteArray × Bool)) × (List ByteArray))))) (a0_4:(List Int)) (a1:TAct):Option ((List (ByteArray × (List Tclub_stay))) × (List (ByteArray × Int)) × (List (ByteArray × (Bool × (List (ByteArray × Bool)) × (List ByteArray))))) :=
  ifB (a1.Kind==1) ((appM 24 ((lkM a0_1 a1.Who).getD []) [(Tclub_stay.mk a1.At (-1) a1.Cents)]).bind fun q4=>some (putM a0_1 a1.Who q4,a0_2,a0_3)) (ifB (a1.Kind==2) ((getI ((lkM a0_1 a1.Who).getD []) (w64 ((((lkM a0_1 a1.Who).getD []).length:Int) - 1))).bind fun e13=>some (repM a0_1 a1.Who (((lkM a0_1 a1.Who).getD []).set ((w64 ((((lkM a0_1 a1.Who).getD []).length:Int) - 1)).toNat) (Tclub_stay.mk e13.since a1.At e13.cents)),a0_2,a0_3)) (ifB (a1.Kind==3) (some (a0_1,putM a0_2 a1.Who (w64 (((lkM a0_2 a1.Who).getD 0)+a1.Cents)),a0_3)) (ifB (a1.Kind==4) (some (a0_1,a0_2,putM a0_3 a1.Motion (false,([]:(List (ByteArray × Bool))),([]:List ByteArray)))) (ifB (a1.Kind==5) (optB (lkM a0_3 a1.Motion) (none) (fun t30=>some (a0_1,a0_2,repM a0_3 a1.Motion (t30.1,(putM t30.2.1 a1.Who a1.Yes),t30.2.2)))) (ifB (a1.Kind==6) (optB (lkM a0_3 a1.Motion) ((m_club_books_members a0_0 a0_1 a0_2 a0_3 a0_4).bind fun y45=>none) (fun t43=>(m_club_books_members a0_0 a0_1 a0_2 a0_3 a0_4).bind fun y53=>some (a0_1,a0_2,repM a0_3 a1.Motion (true,t43.2.1,y53)))) (some (a0_1,a0_2,a0_3)))))))
def m_club_booksAt_l1 (a0:(List TAct)) (a1:Int) (i7:Nat) (x8:Int) (u11:((List (ByteArray × (Bool × (List (ByteArray × Bool)) × (List ByteArray)))) × (List (ByteArray × Int)) × (List (ByteArray × (List Tclub_stay))) × (List Int))):Option (Flow ((List (ByteArray × (Bool × (List (ByteArray × Bool)) × (List ByteArray)))) × (List (ByteArray × Int)) × (List (ByteArray × (List Tclub_stay))) × (List Int)) (Int × (List (ByteArray × (List Tclub_stay))) × (List (ByteArray × Int)) × (List (ByteArray × (Bool × (List (ByteArray × Bool)) × (List ByteArray)))) × (List Int))) :=
  (getI a0 x8).bind fun e16=>(m_club_books_permits a1 u11.2.2.1 u11.2.1 u11.1 u11.2.2.2 e16).bind fun y17=>ifB y17 ((getI a0 x8).bind fun e18=>(m_club_books_act a1 u11.2.2.1 u11.2.1 u11.1 u11.2.2.2 e18).bind fun y19=>some (.nxt (y19.2.2,y19.2.1,y19.1,u11.2.2.2))) ((appM 8 u11.2.2.2 [x8]).bind fun q29=>some (.nxt (u11.1,u11.2.1,u11.2.2.1,q29)))
def m_club_booksAt (a0:(List TAct)) (a1:Int):Option (Int × (List (ByteArray × (List Tclub_stay))) × (List (ByteArray × Int)) × (List (ByteArray × (Bool × (List (ByteArray × Bool)) × (List ByteArray)))) × (List Int)) :=
  (m_club_counting a0 a1).bind fun y5=>(rangeM (m_club_booksAt_l1 a0 a1) 0 y5 ([],[],[],[])).bind fun f14=>Flow.fin f14 fun u11=>some (a1,u11.2.2.1,u11.2.1,u11.1,u11.2.2.2)
def m_club_checkedAt (a0:(List TAct)) (a1:Int):Option ((Option (Int × (List (ByteArray × (List Tclub_stay))) × (List (ByteArray × Int)) × (List (ByteArray × (Bool × (List (ByteArray × Bool)) × (List ByteArray)))) × (List Int))) × Int) :=
  (m_club_askedFault a0 a1).bind fun y1=>ifB (y1 != 0) (some (none,y1)) ((m_club_booksAt a0 a1).bind fun y2=>some (some (y2.1,y2.2.1,y2.2.2.1,y2.2.2.2.1,y2.2.2.2.2),0))
def m_club_Members (a0:(List TAct)) (a1:Int):Option ((List ByteArray) × Int) :=
  (m_club_checkedAt a0 a1).bind fun y1=>optB y1.1 (ifB (y1.2 != 0) (some ([],y1.2)) (none)) (fun t2=>ifB (y1.2 != 0) (some ([],y1.2)) ((m_club_books_members t2.1 t2.2.1 t2.2.2.1 t2.2.2.2.1 t2.2.2.2.2).bind fun y33=>some (y33,0)))
def m_gleekeep2_errs_l1  (i1:Nat) (x2:Int) (u4:Unit):Option (Flow Unit Int) :=
  ifB (x2 != 0) (some (.ret x2)) (some (.nxt ()))
def m_gleekeep2_errs (a0:(List Int)):Option Int :=
  (rangeM m_gleekeep2_errs_l1 0 a0 ()).bind fun f7=>Flow.fin f7 fun u4=>some 0
def m_gleekeep2_ready  : Option Bool :=
  (m_piece_Order [(TBar.mk 1 4 2 0 true)]).bind fun y2=>(m_chord_Name (TChord.mk 1 2 1)).bind fun y4=>(m_rehearse_There [(TCame.mk 5 (ByteArray.mk [97,110,110].toArray) false)] 6).bind fun y6=>(m_concert_Long (TProgram.mk [(TItem.mk (ByteArray.mk [97].toArray) (ByteArray.mk [112].toArray) 7 [(ByteArray.mk [97,108,116,111].toArray)])] 0 0 0 (-1))).bind fun y10=>(m_club_Members [(TAct.mk (ByteArray.mk [97].toArray) 1 0 1 (ByteArray.mk [97,110,110].toArray) ByteArray.empty 0 false ByteArray.empty 0)] 0).bind fun y12=>(m_gleekeep2_errs [y2.2,y4.2,y6.2,y10.2,y12.2]).bind fun y15=>ifB (y15==0) (ifB ((y2.1.length:Int)==2) (ifB (y4.1.toList==(ByteArray.mk [99,35,32,109,105,110,47,49].toArray).toList) (ifB ((y6.1.length:Int)==1) (ifB (y10.1==7) (some ((y12.1.length:Int)==1)) (some false)) (some false)) (some false)) (some false)) (some false)
def m_gleekeep2_ChordsStay_l1  (i42:Nat) (x43:(List Int)) (u45:Unit):Option (Flow Unit Bool) :=
  some (.nxt ())
def m_gleekeep2_ChordsStay (a0:(List Int)):Option Bool :=
  (m_gleemake_Stream_Notes a0 0).bind fun y3=>(m_gleemake_Stream_Chords a0 y3.2 3).bind fun y5=>(m_gleemake_Stream_Follows a0 y5.2).bind fun y7=>(m_gleemake_Stream_Ranges a0 y7.2).bind fun y9=>(m_gleemake_Stream_Voices a0 y9.2).bind fun y11=>(m_gleemake_Stream_Notes a0 0).bind fun y14=>(m_gleemake_Stream_Chords a0 y14.2 3).bind fun y16=>(m_gleemake_Stream_Follows a0 y16.2).bind fun y18=>(m_gleemake_Stream_Ranges a0 y18.2).bind fun y20=>(m_gleemake_Stream_Voices a0 y20.2).bind fun y22=>(m_chord_Of y3.1).bind fun y25=>(m_gleekeep2_spoil_api_Chord y25.1).bind fun y27=>(ifB (decide ((y5.1.length:Int)>1)) ((getI y5.1 0).bind fun e31=>(getI y5.1 1).bind fun e32=>(m_chord_Way y7.1 e31 e32).bind fun y33=>(m_gleekeep2_spoil_api_Chord y33.1).bind fun y35=>some (.inl ())) (some (.inl ())):Option (Unit ⊕ Bool)).bind fun k30=>Sum.fin k30 fun u28=>(m_chord_Best y5.1 y9.1 12).bind fun y38=>(rangeM m_gleekeep2_ChordsStay_l1 0 y38.1 ()).bind fun f48=>Flow.fin f48 fun u45=>(m_chord_Faults y11.1 5).bind fun y49=>(m_slices_Equal_int_int y3.1 y14.1).bind fun y51=>ifB y51 ((m_slices_Equal_api_Chord_api_Chord y5.1 y16.1).bind fun y52=>ifB y52 ((m_slices_Equal_api_Follow_api_Follow y7.1 y18.1).bind fun y53=>ifB y53 ((m_slices_Equal_api_Range_api_Range y9.1 y20.1).bind fun y54=>ifB y54 ((m_slices_EqualFunc_int_int_int_int__slices_Equal_int_int y11.1 y22.1).bind fun y55=>ifB y55 (m_gleekeep2_ready.bind fun y56=>some y56) (some false)) (some false)) (some false)) (some false)) (some false)
end
end Go.G
