/- The models. Written by program. -/
import Derived.Test.YtlkpfhdlfapfhadGreatDoorXM
namespace Go.G
open Go Go.J
set_option linter.unusedVariables false
noncomputable section
structure Tgleemake_Stream where
  L:(List Int)
  at_:Int
  deriving DecidableEq,Inhabited
structure TAct where
  Site:ByteArray
  No:Int
  At:Int
  Kind:Int
  Who:ByteArray
  Motion:ByteArray
  Cents:Int
  Yes:Bool
  Of:ByteArray
  Other:Int
  deriving DecidableEq,Inhabited
structure Tclub_console where
  l:(List TAct)
  at_:Int
  deriving DecidableEq,Inhabited
structure Tclub_stay where
  since:Int
  till:Int
  cents:Int
  deriving DecidableEq,Inhabited
structure Tclub_own where
  site:ByteArray
  no:Int
  deriving DecidableEq,Inhabited
structure Tgleeref2_stay where
  from_:Int
  to_:Int
  cents:Int
  deriving DecidableEq,Inhabited
structure TPair where
  Name:ByteArray
  Value:ByteArray
  deriving DecidableEq,Inhabited
structure Tclub_uses where
  who:Bool
  motion:Bool
  cents:Bool
  yes:Bool
  undo:Bool
  deriving DecidableEq,Inhabited
structure TFraction where
  Num:Int
  Den:Int
  deriving DecidableEq,Inhabited
structure TTally where
  Motion:ByteArray
  Yes:Int
  No:Int
  Of:Int
  Over:Bool
  Accepted:Bool
  deriving DecidableEq,Inhabited
structure Tclub_debt where
  who:ByteArray
  cents:Int
  deriving DecidableEq,Inhabited
def J6 (a0:Int) (a1:Int):Option Int :=
  ifB (decide (a1<1)) (some 0) ((aI3 a0 a1).bind fun z1=>ifB (decide (z1<0)) (some (w64 (z1+a1))) (some z1))
def A4 (bY9:(List Int)) (bZ4:Int) (a1:Int):Option (Int × Int) :=
  ifB ((bY9.length:Int)==0) ((J6 (w64 ((w64 (bZ4+1))*7919)) a1).bind fun y1=>some (y1,w64 (bZ4+1))) ((aI3 (w64 ((w64 (bZ4+1)) - 1)) (bY9.length:Int)).bind fun z2=>(aK2 (w64 ((w64 (bZ4+1)) - 1)) (bY9.length:Int)).bind fun z3=>(v8 bY9 z2).bind fun e4=>(J6 e4 1073741824).bind fun y5=>(J6 (w64 (y5+(w64 (z3*(w64 (7919+z2)))))) a1).bind fun y6=>some (y6,w64 (bZ4+1)))
def B2 (bY9:(List Int)) (bZ4:Int) (a1:Int) (a2:Int):Option (Int × Int) :=
  ifB (decide (a2<a1)) (some (a1,bZ4)) ((A4 bY9 bZ4 (w64 ((w64 (a2 - a1))+1))).bind fun y1=>some (w64 (a1+y1.1),y1.2))
def w5 (bY9:(List Int)) (bZ4:Int) (a1:(List Int)):Option (Int × Int) :=
  (A4 bY9 bZ4 (a1.length:Int)).bind fun y1=>(v8 a1 y1.1).bind fun e2=>some (e2,y1.2)
def n7 (bY9:(List Int)) (bZ4:Int) (a1:(List ByteArray)):Option (ByteArray × Int) :=
  (A4 bY9 bZ4 (a1.length:Int)).bind fun y1=>(v8 a1 y1.1).bind fun e2=>some (e2,y1.2)
def B7 (bY9:(List Int)) (bZ4:Int) (a1:Int):Option (Bool × Int) :=
  (A4 bY9 bZ4 a1).bind fun y1=>some (y1.1==0,y1.2)
def C6 (bY9:(List Int)) (bZ4:Int) (a1:Int) (a2:Int):Option (Int × Int) :=
  (B7 bY9 bZ4 12).bind fun y1=>ifB y1.1 ((w5 bY9 y1.2 [w64 (a1 - 1),w64 (a2+1),a1,a2,(-1099511627776),1099511627776]).bind fun y3=>some (y3.1,y3.2)) ((B2 bY9 y1.2 a1 a2).bind fun y4=>some (y4.1,y4.2))
def L1 (a0:Int):Option Int :=
  ifB (decide (a0<0)) (some (-1)) (ifB (decide (a0>0)) (some 1) (some 0))
def v7 (a0:TAct) (a1:TAct):Option Int :=
  ifB (a0.At != a1.At) ((L1 (w64 (a0.At - a1.At))).bind fun y3=>some y3) (ifB (!(a0.Site.toList==a1.Site.toList)) ((D9 a0.Site a1.Site).bind fun y4=>some y4) ((L1 (w64 (a0.No - a1.No))).bind fun y5=>some y5))
def P1 (a1:Int) (u5:(Int × (List TAct))):Option (Flow (Int × (List TAct)) (Flow (Int × (List TAct)) (List TAct))) :=
  ifB (decide (u5.1>a1)) ((v8 u5.2 u5.1).bind fun e9=>(v8 u5.2 (w64 (u5.1 - 1))).bind fun e10=>(v7 e9 e10).bind fun y11=>ifB (decide (y11<0)) ((v8 u5.2 (w64 (u5.1 - 1))).bind fun e12=>(v8 u5.2 u5.1).bind fun e13=>(v8 u5.2 u5.1).bind fun e14=>(v8 (u5.2.set u5.1.toNat e12) (w64 (u5.1 - 1))).bind fun e15=>some (.nxt (w64 (u5.1 - 1),((u5.2.set u5.1.toNat e12).set ((w64 (u5.1 - 1)).toNat) e13)))) (some (.brk (u5.1,u5.2)))) (some (.brk (u5.1,u5.2)))
def P2 (a1:Int) (a2:Int) (u1:(Int × (List TAct))):Option (Flow (Int × (List TAct)) (List TAct)) :=
  ifB (decide (u1.1<a2)) ((J2 (P1 a1) (u1.1,u1.2)).bind fun f8=>Flow.fin f8 fun u5=>some (.nxt (w64 (u1.1+1),u5.2))) (some (.brk (u1.1,u1.2)))
def o0 (a0:(List TAct)) (a1:Int) (a2:Int):Option (List TAct) :=
  (J2 (P2 a1 a2) (w64 (a1+1),a0)).bind fun f4=>Flow.fin f4 fun u1=>some u1.2
def V4 (a1:Int) (u7:(Int × Int × Int)) (u11:Unit):Option (Flow Unit (Flow (Int × Int × Int) (List TAct))) :=
  ifB (decide ((w64 (2*u7.1))≤a1)) (none) (some (.brk ()))
def o7 (a1:Int) (u7:(Int × Int × Int)):Option (Flow (Int × Int × Int) (List TAct)) :=
  ifB (decide (u7.1<a1)) ((J2 (V4 a1 u7) ()).bind fun f14=>Flow.fin f14 fun u11=>ifB (decide ((w64 (0+u7.1))<a1)) (none) (some (.nxt (w64 (u7.1*2),0,w64 (2*u7.1))))) (some (.brk (u7.1,u7.2.1,u7.2.2)))
def m4 (a1:Int) (u1:(Int × Int × (List TAct))):Option (Flow (Int × Int × (List TAct)) (List TAct)) :=
  ifB (decide (u1.2.1≤a1)) ((o0 u1.2.2 u1.1 u1.2.1).bind fun y5=>some (.nxt (u1.2.1,w64 (u1.2.1+20),y5))) (some (.brk (u1.1,u1.2.1,u1.2.2)))
def w7 (a0:(List TAct)) (a1:Int):Option (List TAct) :=
  (J2 (m4 a1) (0,20,a0)).bind fun f4=>Flow.fin f4 fun u1=>(o0 u1.2.2 u1.1 a1).bind fun y6=>(J2 (o7 a1) (20,u1.1,u1.2.1)).bind fun f10=>Flow.fin f10 fun u7=>some y6
def n9 (a0:(List TAct)):Option (List TAct) :=
  (w7 a0 (a0.length:Int)).bind fun y1=>some y1
def J9 (bY9:(List Int)) (i2:Nat) (x3:Nat) (u6:(Int × Int × (List (ByteArray × Int)) × (List TAct))):Option (Flow (Int × Int × (List (ByteArray × Int)) × (List TAct)) ((List TAct) × Int)) :=
  (w5 bY9 u6.2.1 [0,1,5,5,2592000000]).bind fun y12=>(n7 bY9 y12.2 [(ByteArray.mk [115,97].toArray),(ByteArray.mk [115,97].toArray),(ByteArray.mk [115,98].toArray),(ByteArray.mk [115,99].toArray)]).bind fun y14=>(w5 bY9 y14.2 [1,1,1,2,3,3,4,5,5,5,6,7]).bind fun y16=>(n7 bY9 y16.2 [(ByteArray.mk [97,110,110].toArray),(ByteArray.mk [98,111,98].toArray),(ByteArray.mk [99,105,100].toArray),(ByteArray.mk [97,110,110].toArray)]).bind fun y21=>(n7 bY9 y21.2 [(ByteArray.mk [104,97,116,115].toArray),(ByteArray.mk [104,97,116,115].toArray),(ByteArray.mk [116,111,117,114].toArray)]).bind fun y23=>(ifB (y16.1==1) ((w5 bY9 y23.2 [0,500,700]).bind fun y28=>some (.inl (y28.2,y21.1,ByteArray.empty,y28.1,false,ByteArray.empty,0))) (ifB (y16.1==2) (some (.inl (y23.2,y21.1,ByteArray.empty,0,false,ByteArray.empty,0))) (ifB (y16.1==3) ((w5 bY9 y23.2 [1,500,1200]).bind fun y30=>some (.inl (y30.2,y21.1,ByteArray.empty,y30.1,false,ByteArray.empty,0))) ((ifB (y16.1==4) (some (.inl (y16.1==4))) (some (.inl (y16.1==6))):Option (Bool ⊕ ((Int × ByteArray × ByteArray × Int × Bool × ByteArray × Int) ⊕ Flow (Int × Int × (List (ByteArray × Int)) × (List TAct)) ((List TAct) × Int)))).bind fun k33=>Sum.fin k33 fun u31=>ifB u31 (some (.inl (y23.2,ByteArray.empty,y23.1,0,false,ByteArray.empty,0))) (ifB (y16.1==5) ((B7 bY9 y23.2 2).bind fun y34=>some (.inl (y34.2,y21.1,y23.1,0,y34.1,ByteArray.empty,0))) ((n7 bY9 y23.2 [(ByteArray.mk [115,97].toArray),(ByteArray.mk [115,97].toArray),(ByteArray.mk [115,98].toArray)]).bind fun y36=>(B2 bY9 y36.2 1 (max 1 ((lkM (q9 u6.2.2.1 y14.1 (w64 (((lkM u6.2.2.1 y14.1).getD 0)+1))) (ByteArray.mk [115,97].toArray)).getD 0))).bind fun y37=>some (.inl (y37.2,ByteArray.empty,ByteArray.empty,0,false,y36.1,y37.1))))))):Option ((Int × ByteArray × ByteArray × Int × Bool × ByteArray × Int) ⊕ (Flow (Int × Int × (List (ByteArray × Int)) × (List TAct)) ((List TAct) × Int)))).bind fun k26=>Sum.fin k26 fun u24=>(B7 bY9 u24.1 100).bind fun y39=>(ifB y39.1 ((A4 bY9 y39.2 4).bind fun y43=>ifB (y43.1==0) ((n7 bY9 y43.2 [ByteArray.empty,(ByteArray.mk [115,97].toArray)]).bind fun y45=>(C6 bY9 y45.2 1 9).bind fun y46=>some (.inl (y46.2,y45.1,y46.1,y16.1,u24.2.1,u24.2.2.1,u24.2.2.2.1,u24.2.2.2.2.1,u24.2.2.2.2.2.1,u24.2.2.2.2.2.2))) (ifB (y43.1==1) ((C6 bY9 y43.2 1 7).bind fun y47=>some (.inl (y47.2,y14.1,((lkM (q9 u6.2.2.1 y14.1 (w64 (((lkM u6.2.2.1 y14.1).getD 0)+1))) y14.1).getD 0),y47.1,u24.2.1,u24.2.2.1,u24.2.2.2.1,u24.2.2.2.2.1,u24.2.2.2.2.2.1,u24.2.2.2.2.2.2))) (ifB (y43.1==2) ((n7 bY9 y43.2 [ByteArray.empty,u24.2.1]).bind fun y49=>(n7 bY9 y49.2 [(ByteArray.mk [65].toArray),u24.2.2.1]).bind fun y51=>(n7 bY9 y51.2 [ByteArray.empty,u24.2.2.2.2.2.1]).bind fun y53=>some (.inl (y53.2,y14.1,((lkM (q9 u6.2.2.1 y14.1 (w64 (((lkM u6.2.2.1 y14.1).getD 0)+1))) y14.1).getD 0),y16.1,y49.1,y51.1,u24.2.2.2.1,u24.2.2.2.2.1,y53.1,u24.2.2.2.2.2.2))) ((C6 bY9 y43.2 0 1000000000).bind fun y80=>(C6 bY9 y80.2 0 5).bind fun y81=>some (.inl (y81.2,y14.1,((lkM (q9 u6.2.2.1 y14.1 (w64 (((lkM u6.2.2.1 y14.1).getD 0)+1))) y14.1).getD 0),y16.1,u24.2.1,u24.2.2.1,y80.1,!u24.2.2.2.2.1,u24.2.2.2.2.2.1,y81.1)))))) (some (.inl (y39.2,y14.1,((lkM (q9 u6.2.2.1 y14.1 (w64 (((lkM u6.2.2.1 y14.1).getD 0)+1))) y14.1).getD 0),y16.1,u24.2.1,u24.2.2.1,u24.2.2.2.1,u24.2.2.2.2.1,u24.2.2.2.2.2.1,u24.2.2.2.2.2.2))):Option ((Int × ByteArray × Int × Int × ByteArray × ByteArray × Int × Bool × ByteArray × Int) ⊕ (Flow (Int × Int × (List (ByteArray × Int)) × (List TAct)) ((List TAct) × Int)))).bind fun k42=>Sum.fin k42 fun u40=>(ah3 112 u6.2.2.2 [(TAct.mk u40.2.1 u40.2.2.1 (w64 (u6.1+y12.1)) u40.2.2.2.1 u40.2.2.2.2.1 u40.2.2.2.2.2.1 u40.2.2.2.2.2.2.1 u40.2.2.2.2.2.2.2.1 u40.2.2.2.2.2.2.2.2.1 u40.2.2.2.2.2.2.2.2.2)]).bind fun q83=>some (.nxt (w64 (u6.1+y12.1),u40.1,q9 u6.2.2.1 y14.1 (w64 (((lkM u6.2.2.1 y14.1).getD 0)+1)),q83))
def N2 (bY9:(List Int)) (bZ4:Int) (a1:Int):Option ((List TAct) × Int) :=
  (aE4 a1).bind fun L87=>(l8 (J9 bY9) 0 L87 (0,bZ4,[],[])).bind fun f9=>Flow.fin f9 fun u6=>(n9 u6.2.2.2).bind fun y86=>some (y86,u6.2.1)
def O6 (bY9:(List Int)) (bZ4:Int):Option (Int × Int) :=
  (w5 bY9 bZ4 [0,5,20,40,2592000000,2592000010,7776000000,7776000020,(-1)]).bind fun y2=>some (y2.1,y2.2)
def V8 (bY9:(List Int)) (i2:Nat) (x3:Nat) (u5:(ByteArray × Int)):Option (Flow (ByteArray × Int) (ByteArray × Int)) :=
  (n7 bY9 u5.2 [(ByteArray.mk [109,101,109,98,101,114,115,10].toArray),(ByteArray.mk [111,119,105,110,103,32,49,10].toArray),(ByteArray.mk [111,119,105,110,103,32,54,48,48,10].toArray),(ByteArray.mk [112,117,114,115,101,10].toArray),(ByteArray.mk [111,112,101,110,10].toArray),(ByteArray.mk [118,111,116,101,32,104,97,116,115,32,49,47,50,10].toArray),(ByteArray.mk [118,111,116,101,32,116,111,117,114,32,48,47,49,10].toArray),(ByteArray.mk [118,111,116,101,32,104,97,116,115,32,50,47,52,10].toArray),(ByteArray.mk [118,111,116,101,32,65,32,49,47,50,10].toArray),(ByteArray.mk [118,111,116,101,32,104,97,116,115,32,49,10].toArray),(ByteArray.mk [119,104,111,32,97,110,110,10].toArray),(ByteArray.mk [119,104,111,32,98,111,98,10].toArray),(ByteArray.mk [119,104,111,32,65,10].toArray),(ByteArray.mk [111,119,105,110,103,32,48,10].toArray),(ByteArray.mk [111,119,105,110,103,32,120,10].toArray),(ByteArray.mk [97,116,32,48,10].toArray),(ByteArray.mk [97,116,32,52,48,10].toArray),(ByteArray.mk [97,116,32,50,53,57,50,48,48,48,48,48,48,10].toArray),(ByteArray.mk [97,116,32,57,48,48,48,48,48,48,48,48,48,10].toArray),(ByteArray.mk [97,116,32,45,49,10].toArray),(ByteArray.mk [97,116,32,120,10].toArray),(ByteArray.mk [104,101,121,10].toArray),(ByteArray.mk [112,117,114,115,101,32,49,10].toArray),(ByteArray.mk [10].toArray),(ByteArray.mk [97,116,32,32,53,10].toArray)]).bind fun y10=>(F8 u5.1 y10.1).bind fun c11=>some (.nxt (c11,y10.2))
def K7 (bY9:(List Int)) (bZ4:Int):Option (ByteArray × Int) :=
  (B2 bY9 bZ4 0 6).bind fun y1=>(aE4 y1.1).bind fun L16=>(l8 (V8 bY9) 0 L16 (ByteArray.empty,y1.2)).bind fun f8=>Flow.fin f8 fun u5=>(B7 bY9 u5.2 20).bind fun y12=>ifB y12.1 ((n7 bY9 y12.2 [(ByteArray.mk [111,112,101,110].toArray),(ByteArray.mk [120].toArray)]).bind fun y14=>(F8 u5.1 y14.1).bind fun c15=>some (c15,y14.2)) (some (u5.1,y12.2))
def K3 (a0:ByteArray):Option Bool :=
  ifB (!(a0.toList==ByteArray.empty.toList)) (ifB (decide ((a0.size:Int)≤40)) ((bf6 a0 0).bind fun c1=>(H1 (ByteArray.mk [97,98,99,100,101,102,103,104,105,106,107,108,109,110,111,112,113,114,115,116,117,118,119,120,121,122].toArray) c1).bind fun y2=>ifB (decide (y2≥0)) ((X6 a0 (ByteArray.mk [97,98,99,100,101,102,103,104,105,106,107,108,109,110,111,112,113,114,115,116,117,118,119,120,121,122,48,49,50,51,52,53,54,55,56,57,45,95].toArray)).bind fun y3=>some (y3.toList==ByteArray.empty.toList)) (some false)) (some false)) (some false)
def D3 (a0:Int) (a1:Int) (a2:Int):Option Bool :=
  ifB (decide (a0<a1)) (some true) (some (decide (a0>a2)))
def X7 (a0:Int):Option Bool :=
  (D3 a0 0 345686399999).bind fun y1=>some (!y1)
def ai7 (a0:Int):Option Tclub_uses :=
  ifB (a0==1) (ifB (a0==4) (ifB (a0==1) (some (Tclub_uses.mk true true true (a0==5) (a0==7))) (some (Tclub_uses.mk true true (a0==3) (a0==5) (a0==7)))) (ifB (a0==5) (ifB (a0==1) (some (Tclub_uses.mk true true true (a0==5) (a0==7))) (some (Tclub_uses.mk true true (a0==3) (a0==5) (a0==7)))) (ifB (a0==1) (some (Tclub_uses.mk true (a0==6) true (a0==5) (a0==7))) (some (Tclub_uses.mk true (a0==6) (a0==3) (a0==5) (a0==7)))))) (ifB (a0==2) (ifB (a0==4) (ifB (a0==1) (some (Tclub_uses.mk true true true (a0==5) (a0==7))) (some (Tclub_uses.mk true true (a0==3) (a0==5) (a0==7)))) (ifB (a0==5) (ifB (a0==1) (some (Tclub_uses.mk true true true (a0==5) (a0==7))) (some (Tclub_uses.mk true true (a0==3) (a0==5) (a0==7)))) (ifB (a0==1) (some (Tclub_uses.mk true (a0==6) true (a0==5) (a0==7))) (some (Tclub_uses.mk true (a0==6) (a0==3) (a0==5) (a0==7)))))) (ifB (a0==3) (ifB (a0==4) (ifB (a0==1) (some (Tclub_uses.mk true true true (a0==5) (a0==7))) (some (Tclub_uses.mk true true (a0==3) (a0==5) (a0==7)))) (ifB (a0==5) (ifB (a0==1) (some (Tclub_uses.mk true true true (a0==5) (a0==7))) (some (Tclub_uses.mk true true (a0==3) (a0==5) (a0==7)))) (ifB (a0==1) (some (Tclub_uses.mk true (a0==6) true (a0==5) (a0==7))) (some (Tclub_uses.mk true (a0==6) (a0==3) (a0==5) (a0==7)))))) (ifB (a0==4) (ifB (a0==1) (some (Tclub_uses.mk (a0==5) true true (a0==5) (a0==7))) (some (Tclub_uses.mk (a0==5) true (a0==3) (a0==5) (a0==7)))) (ifB (a0==5) (ifB (a0==1) (some (Tclub_uses.mk (a0==5) true true (a0==5) (a0==7))) (some (Tclub_uses.mk (a0==5) true (a0==3) (a0==5) (a0==7)))) (ifB (a0==1) (some (Tclub_uses.mk (a0==5) (a0==6) true (a0==5) (a0==7))) (some (Tclub_uses.mk (a0==5) (a0==6) (a0==3) (a0==5) (a0==7))))))))
def ai8 (a0:TAct):Option Int :=
  (K3 a0.Site).bind fun y2=>ifB (!y2) (some 5) (((D3 a0.No 1 1000000).bind fun y6=>ifB y6 (some (.inl true)) ((X7 a0.At).bind fun y7=>some (.inl (!y7))):Option (Bool ⊕ Int)).bind fun k5=>Sum.fin k5 fun u3=>ifB u3 (some 1) ((D3 a0.Kind 1 7).bind fun y8=>ifB y8 (some 4) ((ai7 a0.Kind).bind fun y9=>(ifB (a0.Kind==3) (some (.inl 1)) (some (.inl 0)):Option (Int ⊕ Int)).bind fun k13=>Sum.fin k13 fun u11=>(ifB y9.who ((K3 a0.Who).bind fun y17=>ifB (!y17) (some (.inl true)) (ifB y9.motion ((K3 a0.Motion).bind fun y18=>ifB (!y18) (some (.inl true)) (ifB y9.undo ((K3 a0.Of).bind fun y19=>some (.inl (!y19))) (some (.inl false)))) (ifB y9.undo ((K3 a0.Of).bind fun y20=>some (.inl (!y20))) (some (.inl false))))) (ifB y9.motion ((K3 a0.Motion).bind fun y21=>ifB (!y21) (some (.inl true)) (ifB y9.undo ((K3 a0.Of).bind fun y22=>some (.inl (!y22))) (some (.inl false)))) (ifB y9.undo ((K3 a0.Of).bind fun y23=>some (.inl (!y23))) (some (.inl false)))):Option (Bool ⊕ Int)).bind fun k16=>Sum.fin k16 fun u14=>ifB u14 (some 5) ((ifB y9.cents ((D3 a0.Cents u11 1000000000).bind fun y27=>ifB y27 (some (.inl true)) (ifB y9.undo ((D3 a0.Other 1 1000000).bind fun y28=>some (.inl y28)) (some (.inl false)))) (ifB y9.undo ((D3 a0.Other 1 1000000).bind fun y29=>some (.inl y29)) (some (.inl false))):Option (Bool ⊕ Int)).bind fun k26=>Sum.fin k26 fun u24=>ifB u24 (some 1) ((ifB (!y9.who) (ifB (!(a0.Who.toList==ByteArray.empty.toList)) (some (.inl true)) (ifB (!y9.motion) (ifB (!(a0.Motion.toList==ByteArray.empty.toList)) (some (.inl true)) (ifB (!y9.cents) (ifB (a0.Cents != 0) (some (.inl true)) (ifB (!y9.yes) (ifB a0.Yes (some (.inl true)) (ifB (!y9.undo) (ifB (!(a0.Of.toList==ByteArray.empty.toList)) (some (.inl true)) (some (.inl (a0.Other != 0)))) (some (.inl false)))) (ifB (!y9.undo) (ifB (!(a0.Of.toList==ByteArray.empty.toList)) (some (.inl true)) (some (.inl (a0.Other != 0)))) (some (.inl false))))) (ifB (!y9.yes) (ifB a0.Yes (some (.inl true)) (ifB (!y9.undo) (ifB (!(a0.Of.toList==ByteArray.empty.toList)) (some (.inl true)) (some (.inl (a0.Other != 0)))) (some (.inl false)))) (ifB (!y9.undo) (ifB (!(a0.Of.toList==ByteArray.empty.toList)) (some (.inl true)) (some (.inl (a0.Other != 0)))) (some (.inl false)))))) (ifB (!y9.cents) (ifB (a0.Cents != 0) (some (.inl true)) (ifB (!y9.yes) (ifB a0.Yes (some (.inl true)) (ifB (!y9.undo) (ifB (!(a0.Of.toList==ByteArray.empty.toList)) (some (.inl true)) (some (.inl (a0.Other != 0)))) (some (.inl false)))) (ifB (!y9.undo) (ifB (!(a0.Of.toList==ByteArray.empty.toList)) (some (.inl true)) (some (.inl (a0.Other != 0)))) (some (.inl false))))) (ifB (!y9.yes) (ifB a0.Yes (some (.inl true)) (ifB (!y9.undo) (ifB (!(a0.Of.toList==ByteArray.empty.toList)) (some (.inl true)) (some (.inl (a0.Other != 0)))) (some (.inl false)))) (ifB (!y9.undo) (ifB (!(a0.Of.toList==ByteArray.empty.toList)) (some (.inl true)) (some (.inl (a0.Other != 0)))) (some (.inl false))))))) (ifB (!y9.motion) (ifB (!(a0.Motion.toList==ByteArray.empty.toList)) (some (.inl true)) (ifB (!y9.cents) (ifB (a0.Cents != 0) (some (.inl true)) (ifB (!y9.yes) (ifB a0.Yes (some (.inl true)) (ifB (!y9.undo) (ifB (!(a0.Of.toList==ByteArray.empty.toList)) (some (.inl true)) (some (.inl (a0.Other != 0)))) (some (.inl false)))) (ifB (!y9.undo) (ifB (!(a0.Of.toList==ByteArray.empty.toList)) (some (.inl true)) (some (.inl (a0.Other != 0)))) (some (.inl false))))) (ifB (!y9.yes) (ifB a0.Yes (some (.inl true)) (ifB (!y9.undo) (ifB (!(a0.Of.toList==ByteArray.empty.toList)) (some (.inl true)) (some (.inl (a0.Other != 0)))) (some (.inl false)))) (ifB (!y9.undo) (ifB (!(a0.Of.toList==ByteArray.empty.toList)) (some (.inl true)) (some (.inl (a0.Other != 0)))) (some (.inl false)))))) (ifB (!y9.cents) (ifB (a0.Cents != 0) (some (.inl true)) (ifB (!y9.yes) (ifB a0.Yes (some (.inl true)) (ifB (!y9.undo) (ifB (!(a0.Of.toList==ByteArray.empty.toList)) (some (.inl true)) (some (.inl (a0.Other != 0)))) (some (.inl false)))) (ifB (!y9.undo) (ifB (!(a0.Of.toList==ByteArray.empty.toList)) (some (.inl true)) (some (.inl (a0.Other != 0)))) (some (.inl false))))) (ifB (!y9.yes) (ifB a0.Yes (some (.inl true)) (ifB (!y9.undo) (ifB (!(a0.Of.toList==ByteArray.empty.toList)) (some (.inl true)) (some (.inl (a0.Other != 0)))) (some (.inl false)))) (ifB (!y9.undo) (ifB (!(a0.Of.toList==ByteArray.empty.toList)) (some (.inl true)) (some (.inl (a0.Other != 0)))) (some (.inl false)))))):Option (Bool ⊕ Int)).bind fun k32=>Sum.fin k32 fun u30=>ifB u30 (some 3) (some 0))))))
def U4 (a0:Int):Option Bool :=
  some (a0 != a0)
def H3 (a0:Int) (a1:Int):Option Int :=
  (U4 a0).bind fun y1=>(U4 a1).bind fun y2=>ifB y1 (ifB y2 (some 0) (some (-1))) (ifB y2 (some 1) (ifB (decide (a0<a1)) (some (-1)) (ifB (decide (a0>a1)) (some 1) (some 0))))
def aj1  (i1:Nat) (x2:Int) (u4:Unit):Option (Flow Unit Int) :=
  ifB (x2 != 0) (some (.ret x2)) (some (.nxt ()))
def W0 (a0:(List Int)):Option Int :=
  (l8 aj1 0 a0 ()).bind fun f7=>Flow.fin f7 fun u4=>some 0
def af7 (a0:TAct) (a1:TAct):Option Int :=
  (H3 a0.At a1.At).bind fun y3=>(D9 a0.Site a1.Site).bind fun y4=>(H3 a0.No a1.No).bind fun y5=>(W0 [y3,y4,y5]).bind fun y7=>some y7
def ah9  (i13:Nat) (x14:TAct) (u16:(List (Tclub_own × Bool))):Option (Flow (List (Tclub_own × Bool)) Int) :=
  ifB ((lkM u16 (Tclub_own.mk x14.Site x14.No)).getD false) (some (.ret 6)) (some (.nxt (q9 u16 (Tclub_own.mk x14.Site x14.No) true)))
def ai0 (a0:(List TAct)) (i1:Nat) (x2:TAct) (u4:Unit):Option (Flow Unit Int) :=
  (ai8 x2).bind fun y9=>ifB (y9 != 0) (some (.ret y9)) (ifB (decide ((i1:Int)>0)) ((v8 a0 (w64 ((i1:Int) - 1))).bind fun e10=>(af7 e10 x2).bind fun y11=>ifB (decide (y11≥0)) (some (.ret 7)) (some (.nxt ()))) (some (.nxt ())))
def W9 (a0:(List TAct)):Option Int :=
  ifB (decide ((a0.length:Int)>2000)) (some 2) ((l8 (ai0 a0) 0 a0 ()).bind fun f7=>Flow.fin f7 fun u4=>(l8 ah9 0 a0 []).bind fun f19=>Flow.fin f19 fun u16=>some 0)
def Z9 (a0:(List TAct)) (a1:Int):Option Int :=
  (W9 a0).bind fun y1=>ifB (y1 != 0) (some y1) ((X7 a1).bind fun y2=>ifB (!y2) (some 1) (some 0))
def V5  (u1:(Int × Int × (List Int))):Option (Flow (Int × Int × (List Int)) (List Int)) :=
  ifB (decide (u1.1<u1.2.1)) ((v8 u1.2.2 u1.2.1).bind fun e5=>(v8 u1.2.2 u1.1).bind fun e6=>(v8 u1.2.2 u1.1).bind fun e7=>(v8 (u1.2.2.set u1.1.toNat e5) u1.2.1).bind fun e8=>some (.nxt (w64 (u1.1+1),w64 (u1.2.1 - 1),((u1.2.2.set u1.1.toNat e5).set u1.2.1.toNat e6)))) (some (.brk (u1.1,u1.2.1,u1.2.2)))
def K6 (a0:(List Int)):Option (List Int) :=
  (J2 V5 (0,w64 ((a0.length:Int) - 1),a0)).bind fun f4=>Flow.fin f4 fun u1=>some u1.2.2
def ak0 (a1:Int) (i6:Nat) (x7:TAct) (u13:((List (Tclub_own × Bool)) × (List Int))):Option (Flow ((List (Tclub_own × Bool)) × (List Int)) (List Int)) :=
  (ifB (decide (x7.At>a1)) (some (.inl true)) (some (.inl ((lkM u13.1 (Tclub_own.mk x7.Site x7.No)).getD false))):Option (Bool ⊕ (Flow ((List (Tclub_own × Bool)) × (List Int)) (List Int)))).bind fun k21=>Sum.fin k21 fun u19=>ifB u19 (some (.nxt (u13.1,u13.2))) ((ah3 8 u13.2 [(i6:Int)]).bind fun q23=>ifB (x7.Kind==7) (some (.nxt (q9 u13.1 (Tclub_own.mk x7.Of x7.Other) true,q23))) (some (.nxt (u13.1,q23))))
def ad0 (a0:(List TAct)) (a1:Int):Option (List Int) :=
  (bf9 (ak0 a1) a0 ([],[])).bind fun f16=>Flow.fin f16 fun u13=>(K6 u13.2).bind fun y29=>some y29
def B3 (bY9:Int) (bZ4:(List (ByteArray × (List Tclub_stay)))) (ca7:(List (ByteArray × Int))) (cc5:(List (ByteArray × (Bool × (List (ByteArray × Bool)) × (List ByteArray))))) (cg7:(List Int)) (a1:ByteArray):Option Bool :=
  ifB (decide ((((lkM bZ4 a1).getD []).length:Int)>0)) ((v8 ((lkM bZ4 a1).getD []) (w64 ((((lkM bZ4 a1).getD []).length:Int) - 1))).bind fun e1=>some (decide (e1.till<0))) (some false)
def K2 (bY9:Int) (bZ4:(List (ByteArray × (List Tclub_stay)))) (ca7:(List (ByteArray × Int))) (cc5:(List (ByteArray × (Bool × (List (ByteArray × Bool)) × (List ByteArray))))) (cg7:(List Int)) (a1:ByteArray):Option Bool :=
  au2 (lkM cc5 a1) (some false) (fun t4=>some (!t4.1))
def R5 (bY9:Int) (bZ4:(List (ByteArray × (List Tclub_stay)))) (ca7:(List (ByteArray × Int))) (cc5:(List (ByteArray × (Bool × (List (ByteArray × Bool)) × (List ByteArray))))) (cg7:(List Int)) (a1:TAct):Option Bool :=
  ifB (a1.Kind==1) ((B3 bY9 bZ4 ca7 cc5 cg7 a1.Who).bind fun y2=>some (!y2)) (ifB (a1.Kind==2) ((B3 bY9 bZ4 ca7 cc5 cg7 a1.Who).bind fun y3=>some y3) (ifB (a1.Kind==4) (au2 (lkM cc5 a1.Motion) (some true) (fun t7=>some false)) (ifB (a1.Kind==5) ((B3 bY9 bZ4 ca7 cc5 cg7 a1.Who).bind fun y15=>ifB y15 ((K2 bY9 bZ4 ca7 cc5 cg7 a1.Motion).bind fun y16=>some y16) (some false)) (ifB (a1.Kind==6) ((K2 bY9 bZ4 ca7 cc5 cg7 a1.Motion).bind fun y17=>some y17) (some true)))))
noncomputable def m9 (cj3:(List (ByteArray × (List Tclub_stay)))):Option (List ByteArray) :=
  if cj3.length≤1000000000 then o8 (cj3.map Prod.fst) else none
def ak5 (bY9:Int) (bZ4:(List (ByteArray × (List Tclub_stay)))) (ca7:(List (ByteArray × Int))) (cc5:(List (ByteArray × (Bool × (List (ByteArray × Bool)) × (List ByteArray))))) (cg7:(List Int)) (i4:Nat) (x5:ByteArray) (u8:(List ByteArray)):Option (Flow (List ByteArray) (List ByteArray)) :=
  (B3 bY9 bZ4 ca7 cc5 cg7 x5).bind fun y13=>ifB y13 ((ah3 16 u8 [x5]).bind fun q15=>some (.nxt q15)) (some (.nxt u8))
def F7 (bY9:Int) (bZ4:(List (ByteArray × (List Tclub_stay)))) (ca7:(List (ByteArray × Int))) (cc5:(List (ByteArray × (Bool × (List (ByteArray × Bool)) × (List ByteArray))))) (cg7:(List Int)):Option (List ByteArray) :=
  (m9 bZ4).bind fun y2=>(l8 (ak5 bY9 bZ4 ca7 cc5 cg7) 0 y2 []).bind fun f11=>Flow.fin f11 fun u8=>some u8
def ab6 (bY9:Int) (bZ4:(List (ByteArray × (List Tclub_stay)))) (ca7:(List (ByteArray × Int))) (cc5:(List (ByteArray × (Bool × (List (ByteArray × Bool)) × (List ByteArray))))) (cg7:(List Int)) (a1:TAct):Option ((List (ByteArray × (List Tclub_stay))) × (List (ByteArray × Int)) × (List (ByteArray × (Bool × (List (ByteArray × Bool)) × (List ByteArray))))) :=
  ifB (a1.Kind==1) ((ah3 24 ((lkM bZ4 a1.Who).getD []) [(Tclub_stay.mk a1.At (-1) a1.Cents)]).bind fun q4=>some (q9 bZ4 a1.Who q4,ca7,cc5)) (ifB (a1.Kind==2) ((v8 ((lkM bZ4 a1.Who).getD []) (w64 ((((lkM bZ4 a1.Who).getD []).length:Int) - 1))).bind fun e13=>some (ab0 bZ4 a1.Who (((lkM bZ4 a1.Who).getD []).set ((w64 ((((lkM bZ4 a1.Who).getD []).length:Int) - 1)).toNat) (Tclub_stay.mk e13.since a1.At e13.cents)),ca7,cc5)) (ifB (a1.Kind==3) (some (bZ4,q9 ca7 a1.Who (w64 (((lkM ca7 a1.Who).getD 0)+a1.Cents)),cc5)) (ifB (a1.Kind==4) (some (bZ4,ca7,q9 cc5 a1.Motion (false,([]:(List (ByteArray × Bool))),([]:List ByteArray)))) (ifB (a1.Kind==5) (au2 (lkM cc5 a1.Motion) (none) (fun t30=>some (bZ4,ca7,ab0 cc5 a1.Motion (t30.1,(q9 t30.2.1 a1.Who a1.Yes),t30.2.2)))) (ifB (a1.Kind==6) (au2 (lkM cc5 a1.Motion) ((F7 bY9 bZ4 ca7 cc5 cg7).bind fun y45=>none) (fun t43=>(F7 bY9 bZ4 ca7 cc5 cg7).bind fun y53=>some (bZ4,ca7,ab0 cc5 a1.Motion (true,t43.2.1,y53)))) (some (bZ4,ca7,cc5)))))))
def ae3 (a0:(List TAct)) (a1:Int) (i7:Nat) (x8:Int) (u11:((List (ByteArray × (Bool × (List (ByteArray × Bool)) × (List ByteArray)))) × (List (ByteArray × Int)) × (List (ByteArray × (List Tclub_stay))) × (List Int))):Option (Flow ((List (ByteArray × (Bool × (List (ByteArray × Bool)) × (List ByteArray)))) × (List (ByteArray × Int)) × (List (ByteArray × (List Tclub_stay))) × (List Int)) (Int × (List (ByteArray × (List Tclub_stay))) × (List (ByteArray × Int)) × (List (ByteArray × (Bool × (List (ByteArray × Bool)) × (List ByteArray)))) × (List Int))) :=
  (v8 a0 x8).bind fun e16=>(R5 a1 u11.2.2.1 u11.2.1 u11.1 u11.2.2.2 e16).bind fun y17=>ifB y17 ((v8 a0 x8).bind fun e18=>(ab6 a1 u11.2.2.1 u11.2.1 u11.1 u11.2.2.2 e18).bind fun y19=>some (.nxt (y19.2.2,y19.2.1,y19.1,u11.2.2.2))) ((ah3 8 u11.2.2.2 [x8]).bind fun q29=>some (.nxt (u11.1,u11.2.1,u11.2.2.1,q29)))
def af8 (a0:(List TAct)) (a1:Int):Option (Int × (List (ByteArray × (List Tclub_stay))) × (List (ByteArray × Int)) × (List (ByteArray × (Bool × (List (ByteArray × Bool)) × (List ByteArray)))) × (List Int)) :=
  (ad0 a0 a1).bind fun y5=>(l8 (ae3 a0 a1) 0 y5 ([],[],[],[])).bind fun f14=>Flow.fin f14 fun u11=>some (a1,u11.2.2.1,u11.2.1,u11.1,u11.2.2.2)
def J7 (a0:(List TAct)) (a1:Int):Option ((Option (Int × (List (ByteArray × (List Tclub_stay))) × (List (ByteArray × Int)) × (List (ByteArray × (Bool × (List (ByteArray × Bool)) × (List ByteArray)))) × (List Int))) × Int) :=
  (Z9 a0 a1).bind fun y1=>ifB (y1 != 0) (some (none,y1)) ((af8 a0 a1).bind fun y2=>some (some (y2.1,y2.2.1,y2.2.2.1,y2.2.2.2.1,y2.2.2.2.2),0))
def ag8 (a0:(List TAct)) (a1:ByteArray) (a2:Int):Option ((Option (Int × (List (ByteArray × (List Tclub_stay))) × (List (ByteArray × Int)) × (List (ByteArray × (Bool × (List (ByteArray × Bool)) × (List ByteArray)))) × (List Int))) × Int) :=
  (J7 a0 a2).bind fun y1=>au2 y1.1 (ifB (y1.2 != 0) (some (none,y1.2)) ((K3 a1).bind fun y18=>ifB (!y18) (some (none,5)) (some (none,0)))) (fun t2=>ifB (y1.2 != 0) (some (none,y1.2)) ((K3 a1).bind fun y32=>ifB (!y32) (some (none,5)) (some (some (t2.1,t2.2.1,t2.2.2.1,t2.2.2.2.1,t2.2.2.2.2),0))))
def aa8 (bY9:Int) (i1:Nat) (x2:Tclub_stay) (u4:Int):Option (Flow Int Int) :=
  ifB (decide (x2.till<0)) (some (.nxt (w64 (u4+(w64 ((w64 ((w64 ((w64 (bY9 - x2.since)).tdiv 2592000000))+1))*x2.cents)))))) (some (.nxt (w64 (u4+(w64 ((w64 ((w64 ((w64 ((w64 (x2.till - x2.since))+2592000000)) - 1)).tdiv 2592000000))*x2.cents))))))
def ab5 (bY9:Int) (bZ4:(List (ByteArray × (List Tclub_stay)))) (ca7:(List (ByteArray × Int))) (cc5:(List (ByteArray × (Bool × (List (ByteArray × Bool)) × (List ByteArray))))) (cg7:(List Int)) (a1:ByteArray):Option Int :=
  (l8 (aa8 bY9) 0 ((lkM bZ4 a1).getD []) 0).bind fun f7=>Flow.fin f7 fun u4=>some u4
def I7 (bY9:Int) (bZ4:(List (ByteArray × (List Tclub_stay)))) (ca7:(List (ByteArray × Int))) (cc5:(List (ByteArray × (Bool × (List (ByteArray × Bool)) × (List ByteArray))))) (cg7:(List Int)) (a1:ByteArray):Option (Int × Int) :=
  (ab5 bY9 bZ4 ca7 cc5 cg7 a1).bind fun y1=>(ifB (decide (y1>1000000000000)) (some (.inl true)) (some (.inl (decide (((lkM ca7 a1).getD 0)>1000000000000)))):Option (Bool ⊕ (Int × Int))).bind fun k4=>Sum.fin k4 fun u2=>ifB u2 (some (0,12)) (some (w64 (((lkM ca7 a1).getD 0) - y1),0))
noncomputable def m7 (cj3:(List (ByteArray × (Bool × (List (ByteArray × Bool)) × (List ByteArray))))):Option (List ByteArray) :=
  if cj3.length≤1000000000 then o8 (cj3.map Prod.fst) else none
def aq0 (bY9:Int) (bZ4:(List (ByteArray × (List Tclub_stay)))) (ca7:(List (ByteArray × Int))) (cc5:(List (ByteArray × (Bool × (List (ByteArray × Bool)) × (List ByteArray))))) (cg7:(List Int)) (i4:Nat) (x5:ByteArray) (u8:(List ByteArray)):Option (Flow (List ByteArray) (List ByteArray)) :=
  (K2 bY9 bZ4 ca7 cc5 cg7 x5).bind fun y13=>ifB y13 ((ah3 16 u8 [x5]).bind fun q15=>some (.nxt q15)) (some (.nxt u8))
def S9 (bY9:Int) (bZ4:(List (ByteArray × (List Tclub_stay)))) (ca7:(List (ByteArray × Int))) (cc5:(List (ByteArray × (Bool × (List (ByteArray × Bool)) × (List ByteArray))))) (cg7:(List Int)):Option (List ByteArray) :=
  (m7 cc5).bind fun y2=>(l8 (aq0 bY9 bZ4 ca7 cc5 cg7) 0 y2 []).bind fun f11=>Flow.fin f11 fun u8=>some u8
def N3 (a0:Bool):Option ByteArray :=
  ifB a0 (some (ByteArray.mk [121,101,115].toArray)) (some (ByteArray.mk [110,111].toArray))
def Z7 (cc5:(List (ByteArray × (Bool × (List (ByteArray × Bool)) × (List ByteArray))))) (a1:ByteArray) (i21:Nat) (x22:ByteArray) (u24:(List ByteArray)):Option (Flow (List ByteArray) ((List ByteArray) × Int)) :=
  au2 (lkM cc5 x22) (none) (fun t32=>(ifB (G3 t32.2.1 a1) ((N3 ((lkM t32.2.1 a1).getD false)).bind fun y43=>some (.inl y43)) (some (.inl (ByteArray.mk [118,111,116,101].toArray))):Option (ByteArray ⊕ (Flow (List ByteArray) ((List ByteArray) × Int)))).bind fun k42=>Sum.fin k42 fun u40=>(F8 u40 (ByteArray.mk [32].toArray)).bind fun c44=>(F8 c44 x22).bind fun c45=>(ah3 16 u24 [c45]).bind fun q47=>some (.nxt q47))
def Z8 (bY9:Int) (bZ4:(List (ByteArray × (List Tclub_stay)))) (ca7:(List (ByteArray × Int))) (cc5:(List (ByteArray × (Bool × (List (ByteArray × Bool)) × (List ByteArray))))) (cg7:(List Int)) (a1:ByteArray):Option ((List ByteArray) × Int) :=
  (I7 bY9 bZ4 ca7 cc5 cg7 a1).bind fun y1=>ifB (y1.2 != 0) (some ([],y1.2)) ((B3 bY9 bZ4 ca7 cc5 cg7 a1).bind fun y3=>(ifB y3 ((v8 ((lkM bZ4 a1).getD []) (w64 ((((lkM bZ4 a1).getD []).length:Int) - 1))).bind fun e7=>(l2 e7.since).bind fun y8=>(F8 (ByteArray.mk [109,101,109,98,101,114,32,115,105,110,99,101,32].toArray) y8).bind fun c9=>some (.inl c9)) (some (.inl (ByteArray.mk [110,111,32,109,101,109,98,101,114].toArray))):Option (ByteArray ⊕ ((List ByteArray) × Int))).bind fun k6=>Sum.fin k6 fun u4=>(l2 y1.1).bind fun y10=>(F8 (ByteArray.mk [104,97,115,32].toArray) y10).bind fun c11=>(ifB (decide (y1.1<0)) ((l2 (w64 (0 - y1.1))).bind fun y15=>(F8 (ByteArray.mk [111,119,101,115,32].toArray) y15).bind fun c16=>some (.inl c16)) (some (.inl c11)):Option (ByteArray ⊕ ((List ByteArray) × Int))).bind fun k14=>Sum.fin k14 fun u12=>(B3 bY9 bZ4 ca7 cc5 cg7 a1).bind fun y18=>ifB (!y18) (some ([u4,u12],0)) ((S9 bY9 bZ4 ca7 cc5 cg7).bind fun y19=>(l8 (Z7 cc5 a1) 0 y19 [u4,u12]).bind fun f27=>Flow.fin f27 fun u24=>some (u24,0)))
def R6 (a0:(List TAct)) (a1:ByteArray) (a2:Int):Option ((List ByteArray) × Int) :=
  (ag8 a0 a1 a2).bind fun y1=>au2 y1.1 (ifB (y1.2 != 0) (some ([],y1.2)) (none)) (fun t2=>ifB (y1.2 != 0) (some ([],y1.2)) ((Z8 t2.1 t2.2.1 t2.2.2.1 t2.2.2.2.1 t2.2.2.2.2 a1).bind fun y33=>some (y33.1,y33.2)))
def E8 (a0:ByteArray) (a1:ByteArray):Option Bool :=
  ifB (decide ((a0.size:Int)≥(a1.size:Int))) ((az1 a0 (w64 ((a0.size:Int) - (a1.size:Int))) (a0.size:Int)).bind fun c1=>some (c1.toList==a1.toList)) (some false)
def L6 (a0:ByteArray) (a1:ByteArray):Option (ByteArray × Bool) :=
  (E8 a0 a1).bind fun y1=>ifB (!y1) (some (a0,false)) ((az1 a0 0 (w64 ((a0.size:Int) - (a1.size:Int)))).bind fun c2=>some (c2,true))
def K1 (a0:ByteArray) (a1:ByteArray):Option (ByteArray × Bool) :=
  (L6 a0 a1).bind fun y1=>some (y1.1,y1.2)
def ap4 (a0:ByteArray):Option ((List ByteArray) × Bool) :=
  ifB (a0.toList==ByteArray.empty.toList) (some ([],true)) ((K1 a0 (ByteArray.mk [10].toArray)).bind fun y2=>(E6 y2.1 (ByteArray.mk [10].toArray)).bind fun y3=>some (y3,y2.2))
def aY6  (i3:Nat) (x4:ByteArray) (u6:Unit):Option (Flow Unit ((List ByteArray) × Bool)) :=
  ifB (x4.toList==ByteArray.empty.toList) (some (.ret ([],false))) (some (.nxt ()))
def af3 (a0:ByteArray):Option ((List ByteArray) × Bool) :=
  (E6 a0 (ByteArray.mk [32].toArray)).bind fun y1=>(l8 aY6 0 y1 ()).bind fun f9=>Flow.fin f9 fun u6=>some (y1,true)
def S7 (a0:ByteArray) (a1:ByteArray):Option Bool :=
  ifB (decide ((a0.size:Int)≥(a1.size:Int))) ((az1 a0 0 (a1.size:Int)).bind fun c1=>some (c1.toList==a1.toList)) (some false)
def ab2 (a0:ByteArray) (a1:ByteArray):Option (ByteArray × Bool) :=
  (S7 a0 a1).bind fun y1=>ifB (!y1) (some (a0,false)) ((az1 a0 (a1.size:Int) (a0.size:Int)).bind fun c2=>some (c2,true))
def ah6 (a0:ByteArray) (a1:ByteArray):Option (ByteArray × Bool) :=
  (ab2 a0 a1).bind fun y1=>some (y1.1,y1.2)
def aA5 (a0:ByteArray) (a1:Int):Option (Int × Bool) :=
  (ah6 a0 (ByteArray.mk [45].toArray)).bind fun y1=>(ifB (y1.1.toList==ByteArray.empty.toList) (some (.inl true)) (ifB (decide ((y1.1.size:Int)>a1)) (some (.inl true)) ((X6 y1.1 (ByteArray.mk [48,49,50,51,52,53,54,55,56,57].toArray)).bind fun y5=>ifB (!(y5.toList==ByteArray.empty.toList)) (some (.inl true)) ((bf6 y1.1 0).bind fun c6=>ifB (c6==48) (ifB (decide ((y1.1.size:Int)>1)) (some (.inl true)) (some (.inl y1.2))) (some (.inl false))))):Option (Bool ⊕ (Int × Bool))).bind fun k4=>Sum.fin k4 fun u2=>ifB u2 (some (0,false)) ((al5 y1.1).bind fun y7=>ifB y1.2 (some (w64 (0 - y7.1),true)) (some (y7.1,true)))
def aR3  (i1:Nat) (x2:ByteArray) (u5:(List Int)):Option (Flow (List Int) ((List Int) × Bool)) :=
  (aA5 x2 15).bind fun y10=>ifB (!y10.2) (some (.ret ([],false))) ((ah3 8 u5 [y10.1]).bind fun q13=>some (.nxt q13))
def ai5 (a0:(List ByteArray)):Option ((List Int) × Bool) :=
  (l8 aR3 0 a0 []).bind fun f8=>Flow.fin f8 fun u5=>some (u5,true)
def I4 (a0:(List ByteArray)):Option ByteArray :=
  (af2 a0 (ByteArray.mk [32].toArray)).bind fun y1=>(F8 y1 (ByteArray.mk [10].toArray)).bind fun c2=>some c2
def ah8 (bY9:(List TAct)) (bZ4:Int) (a1:ByteArray):Option (ByteArray × Int × Int) :=
  (ai5 [a1]).bind fun y2=>ifB (!y2.2) (some (ByteArray.empty,9,bZ4)) ((v8 y2.1 0).bind fun e4=>(X7 e4).bind fun y5=>ifB (!y5) (some (ByteArray.empty,1,bZ4)) ((v8 y2.1 0).bind fun e6=>(I4 [(ByteArray.mk [111,107].toArray)]).bind fun y8=>some (y8,0,e6)))
def N5 (a0:(List TAct)) (a1:Int):Option ((List ByteArray) × Int) :=
  (J7 a0 a1).bind fun y1=>au2 y1.1 (ifB (y1.2 != 0) (some ([],y1.2)) (none)) (fun t2=>ifB (y1.2 != 0) (some ([],y1.2)) ((F7 t2.1 t2.2.1 t2.2.2.1 t2.2.2.2.1 t2.2.2.2.2).bind fun y33=>some (y33,0)))
def aq6  (i1:Nat) (x2:ByteArray) (u4:ByteArray):Option (Flow ByteArray ByteArray) :=
  (I4 [x2]).bind fun y9=>(F8 u4 y9).bind fun c10=>some (.nxt c10)
def N4 (a0:(List ByteArray)):Option ByteArray :=
  (l8 aq6 0 a0 ByteArray.empty).bind fun f7=>Flow.fin f7 fun u4=>some u4
def an6 (a0:Int):Option Int :=
  (al6 a0).bind fun y1=>some y1
def x9 (a0:Tclub_debt) (a1:Tclub_debt):Option Int :=
  (H3 a1.cents a0.cents).bind fun y3=>(D9 a0.who a1.who).bind fun y4=>(W0 [y3,y4]).bind fun y6=>some y6
def M2 (a1:Int) (u5:(Int × (List Tclub_debt))):Option (Flow (Int × (List Tclub_debt)) (Flow (Int × (List Tclub_debt)) (List Tclub_debt))) :=
  ifB (decide (u5.1>a1)) ((v8 u5.2 u5.1).bind fun e9=>(v8 u5.2 (w64 (u5.1 - 1))).bind fun e10=>(x9 e9 e10).bind fun y11=>ifB (decide (y11<0)) ((v8 u5.2 (w64 (u5.1 - 1))).bind fun e12=>(v8 u5.2 u5.1).bind fun e13=>(v8 u5.2 u5.1).bind fun e14=>(v8 (u5.2.set u5.1.toNat e12) (w64 (u5.1 - 1))).bind fun e15=>some (.nxt (w64 (u5.1 - 1),((u5.2.set u5.1.toNat e12).set ((w64 (u5.1 - 1)).toNat) e13)))) (some (.brk (u5.1,u5.2)))) (some (.brk (u5.1,u5.2)))
def M3 (a1:Int) (a2:Int) (u1:(Int × (List Tclub_debt))):Option (Flow (Int × (List Tclub_debt)) (List Tclub_debt)) :=
  ifB (decide (u1.1<a2)) ((J2 (M2 a1) (u1.1,u1.2)).bind fun f8=>Flow.fin f8 fun u5=>some (.nxt (w64 (u1.1+1),u5.2))) (some (.brk (u1.1,u1.2)))
def p7 (a0:(List Tclub_debt)) (a1:Int) (a2:Int):Option (List Tclub_debt) :=
  (J2 (M3 a1 a2) (w64 (a1+1),a0)).bind fun f4=>Flow.fin f4 fun u1=>some u1.2
def A7 (a0:(List Tclub_debt)) (a1:Int) (a2:Int) (a3:Int) (u1:Unit):Option (Flow Unit (List Tclub_debt)) :=
  ifB (decide ((w64 (a2 - a1))≤12)) ((p7 a0 a1 a2).bind fun y5=>some (.ret y5)) (ifB (a3==0) (none) ((ifB (!true) (none) (some (.inl ())):Option (Unit ⊕ (Flow Unit (List Tclub_debt)))).bind fun k8=>Sum.fin k8 fun u6=>none))
def v6 (a0:(List Tclub_debt)) (a1:Int) (a2:Int) (a3:Int):Option (List Tclub_debt) :=
  (J2 (A7 a0 a1 a2 a3) ()).bind fun f4=>Flow.fin f4 fun u1=>some a0
def m6 (a0:(List Tclub_debt)):Option (List Tclub_debt) :=
  (an6 (IntKind.wrap .u64 (a0.length:Int))).bind fun y1=>(v6 a0 0 (a0.length:Int) y1).bind fun y2=>some y2
def ad9  (i24:Nat) (x25:Tclub_debt) (u28:(List TPair)):Option (Flow (List TPair) ((List TPair) × Int)) :=
  (l2 x25.cents).bind fun y34=>(ah3 32 u28 [(TPair.mk x25.who y34)]).bind fun q36=>some (.nxt q36)
def C8 (bY9:Int) (bZ4:(List (ByteArray × (List Tclub_stay)))) (ca7:(List (ByteArray × Int))) (cc5:(List (ByteArray × (Bool × (List (ByteArray × Bool)) × (List ByteArray))))) (cg7:(List Int)) (a1:Int) (i3:Nat) (x4:ByteArray) (u11:(List Tclub_debt)):Option (Flow (List Tclub_debt) ((List TPair) × Int)) :=
  (I7 bY9 bZ4 ca7 cc5 cg7 x4).bind fun y17=>ifB (y17.2 != 0) (some (.ret ([],y17.2))) (ifB (decide ((w64 (0 - y17.1))≥a1)) ((ah3 24 u11 [(Tclub_debt.mk x4 (w64 (0 - y17.1)))]).bind fun q20=>some (.nxt q20)) (some (.nxt u11)))
def P9 (bY9:Int) (bZ4:(List (ByteArray × (List Tclub_stay)))) (ca7:(List (ByteArray × Int))) (cc5:(List (ByteArray × (Bool × (List (ByteArray × Bool)) × (List ByteArray))))) (cg7:(List Int)) (a1:Int):Option ((List TPair) × Int) :=
  aw9 (bZ4.map Prod.fst) fun L14=>(l8 (C8 bY9 bZ4 ca7 cc5 cg7 a1) 0 L14 []).bind fun f42=>Flow.fin f42 fun u11=>(m6 u11).bind fun y23=>(l8 ad9 0 y23 []).bind fun f31=>Flow.fin f31 fun u28=>some (u28,0)
def ac6 (a0:(List TAct)) (a1:Int) (a2:Int):Option ((List TPair) × Int) :=
  (J7 a0 a2).bind fun y1=>au2 y1.1 (ifB (y1.2 != 0) (some ([],y1.2)) ((D3 a1 1 1000000000).bind fun y19=>ifB y19 (some ([],1)) (none))) (fun t2=>ifB (y1.2 != 0) (some ([],y1.2)) ((D3 a1 1 1000000000).bind fun y35=>ifB y35 (some ([],1)) ((P9 t2.1 t2.2.1 t2.2.2.1 t2.2.2.2.1 t2.2.2.2.2 a1).bind fun y37=>some (y37.1,y37.2))))
def H9  (i7:Nat) (x8:TPair) (u10:ByteArray):Option (Flow ByteArray (ByteArray × Int)) :=
  (I4 [x8.Name,x8.Value]).bind fun y16=>(F8 u10 y16).bind fun c17=>some (.nxt c17)
def bd5  (i19:Nat) (x20:TPair) (u22:ByteArray):Option (Flow ByteArray (ByteArray × Int)) :=
  (I4 [x20.Name,x20.Value]).bind fun y28=>(F8 u22 y28).bind fun c29=>some (.nxt c29)
def af6 (bY9:(List TAct)) (bZ4:Int) (a1:ByteArray):Option (ByteArray × Int) :=
  (ai5 [a1]).bind fun y2=>ifB (!y2.2) (some (ByteArray.empty,9)) ((v8 y2.1 0).bind fun e4=>(ac6 bY9 e4 bZ4).bind fun y5=>(l8 H9 0 y5.1 ByteArray.empty).bind fun f13=>Flow.fin f13 fun u10=>some (u10,y5.2))
def Y5  (i3:Nat) (x4:(ByteArray × Int)) (u8:Int):Option (Flow Int (Int × Int)) :=
  some (.nxt (w64 (u8+x4.2)))
def X9 (bY9:Int) (bZ4:(List (ByteArray × (List Tclub_stay)))) (ca7:(List (ByteArray × Int))) (cc5:(List (ByteArray × (Bool × (List (ByteArray × Bool)) × (List ByteArray))))) (cg7:(List Int)):Option (Int × Int) :=
  aw9 ca7 fun L11=>(l8 Y5 0 L11 0).bind fun f12=>Flow.fin f12 fun u8=>ifB (decide (u8>1000000000000)) (some (0,12)) (some (u8,0))
def ag9 (a0:(List TAct)) (a1:Int):Option (Int × Int) :=
  (J7 a0 a1).bind fun y1=>au2 y1.1 (ifB (y1.2 != 0) (some (0,y1.2)) (none)) (fun t2=>ifB (y1.2 != 0) (some (0,y1.2)) ((X9 t2.1 t2.2.1 t2.2.2.1 t2.2.2.2.1 t2.2.2.2.2).bind fun y31=>some (y31.1,y31.2)))
def ak6 (a0:(List TAct)) (a1:Int):Option ((List ByteArray) × Int) :=
  (J7 a0 a1).bind fun y1=>au2 y1.1 (ifB (y1.2 != 0) (some ([],y1.2)) (none)) (fun t2=>ifB (y1.2 != 0) (some ([],y1.2)) ((S9 t2.1 t2.2.1 t2.2.2.1 t2.2.2.2.1 t2.2.2.2.2).bind fun y33=>some (y33,0)))
def ah5 (a0:ByteArray) (a1:ByteArray):Option Int :=
  (ifB ((a1.size:Int)==0) (some (.inl true)) (some (.inl (a1.toList==a0.toList))):Option (Bool ⊕ Int)).bind fun k3=>Sum.fin k3 fun u1=>ifB u1 (some 0) (ifB ((a1.size:Int)==1) ((bf6 a1 0).bind fun c4=>(ak4 a0 c4).bind fun y5=>some y5) (ifB (decide ((a1.size:Int)≥(a0.size:Int))) (some (-1)) (none)))
def al4 (a0:ByteArray) (a1:ByteArray):Option (ByteArray × ByteArray × Bool) :=
  (ah5 a0 a1).bind fun y1=>ifB (decide (y1≥0)) ((az1 a0 0 y1).bind fun c2=>(az1 a0 (w64 (y1+(a1.size:Int))) (a0.size:Int)).bind fun c3=>some (c2,c3,true)) (some (a0,ByteArray.empty,false))
def aw7 (a0:ByteArray) (a1:ByteArray):Option (ByteArray × ByteArray × Bool) :=
  (al4 a0 a1).bind fun y1=>some (y1.1,y1.2.1,y1.2.2)
def C7  (u2:(Int × Int)):Option (Flow (Int × Int) Int) :=
  ifB (u2.2 != 0) ((aI3 u2.1 u2.2).bind fun z6=>some (.nxt (u2.2,z6))) (some (.brk (u2.1,u2.2)))
def C2 (a0:TFraction):Option Int :=
  (J2 C7 (a0.Num,a0.Den)).bind fun f5=>Flow.fin f5 fun u2=>(ifB (decide (a0.Den<1)) (some (.inl true)) (ifB (u2.1 != 1) (some (.inl (u2.1 != (-1)))) (some (.inl false))):Option (Bool ⊕ Int)).bind fun k9=>Sum.fin k9 fun u7=>ifB u7 (some 3) ((D3 a0.Num 0 a0.Den).bind fun y10=>ifB y10 (some 1) (some 0))
def W6 (a0:Int) (a1:Int) (a2:TFraction):Option Bool :=
  (ah0 (IntKind.wrap .u64 a0) (IntKind.wrap .u64 a2.Den)).bind fun y2=>(ah0 (IntKind.wrap .u64 a1) (IntKind.wrap .u64 a2.Num)).bind fun y3=>ifB (decide (y2.1>y3.1)) (some true) (ifB (y2.1==y3.1) (some (decide (y2.2≥y3.2))) (some false))
def ap9 (t6:(Bool × (List (ByteArray × Bool)) × (List ByteArray))) (i35:Nat) (x36:ByteArray) (u38:(Int × Int)):Option (Flow (Int × Int) (TTally × Int)) :=
  (ifB (G3 t6.2.1 x36) (some (.inl ((lkM t6.2.1 x36).getD false))) (some (.inl false)):Option (Bool ⊕ (Flow (Int × Int) (TTally × Int)))).bind fun k50=>Sum.fin k50 fun u48=>ifB u48 (some (.nxt (w64 (u38.1+1),u38.2))) (ifB (G3 t6.2.1 x36) (some (.nxt (u38.1,w64 (u38.2+1)))) (some (.nxt (u38.1,u38.2))))
def ap8 (t6:(Bool × (List (ByteArray × Bool)) × (List ByteArray))) (i59:Nat) (x60:ByteArray) (u62:(Int × Int)):Option (Flow (Int × Int) (TTally × Int)) :=
  (ifB (G3 t6.2.1 x60) (some (.inl ((lkM t6.2.1 x60).getD false))) (some (.inl false)):Option (Bool ⊕ (Flow (Int × Int) (TTally × Int)))).bind fun k74=>Sum.fin k74 fun u72=>ifB u72 (some (.nxt (w64 (u62.1+1),u62.2))) (ifB (G3 t6.2.1 x60) (some (.nxt (u62.1,w64 (u62.2+1)))) (some (.nxt (u62.1,u62.2))))
def Z6 (bY9:Int) (bZ4:(List (ByteArray × (List Tclub_stay)))) (ca7:(List (ByteArray × Int))) (cc5:(List (ByteArray × (Bool × (List (ByteArray × Bool)) × (List ByteArray))))) (cg7:(List Int)) (a1:ByteArray) (a2:TFraction):Option (TTally × Int) :=
  au2 (lkM cc5 a1) (some ((TTally.mk ByteArray.empty 0 0 0 false false),8)) (fun t6=>ifB (!t6.1) ((F7 bY9 bZ4 ca7 cc5 cg7).bind fun y26=>(l8 (ap9 t6) 0 y26 (0,0)).bind fun f41=>Flow.fin f41 fun u38=>ifB t6.1 (ifB (decide (u38.1>u38.2)) ((W6 (w64 (u38.1+u38.2)) (y26.length:Int) a2).bind fun y51=>some ((TTally.mk a1 u38.1 u38.2 (y26.length:Int) t6.1 y51),0)) (some ((TTally.mk a1 u38.1 u38.2 (y26.length:Int) t6.1 false),0))) (some ((TTally.mk a1 u38.1 u38.2 (y26.length:Int) t6.1 false),0))) ((l8 (ap8 t6) 0 t6.2.2 (0,0)).bind fun f65=>Flow.fin f65 fun u62=>ifB t6.1 (ifB (decide (u62.1>u62.2)) ((W6 (w64 (u62.1+u62.2)) (t6.2.2.length:Int) a2).bind fun y75=>some ((TTally.mk a1 u62.1 u62.2 (t6.2.2.length:Int) t6.1 y75),0)) (some ((TTally.mk a1 u62.1 u62.2 (t6.2.2.length:Int) t6.1 false),0))) (some ((TTally.mk a1 u62.1 u62.2 (t6.2.2.length:Int) t6.1 false),0))))
def O2 (a0:(List TAct)) (a1:ByteArray) (a2:TFraction) (a3:Int):Option (TTally × Int) :=
  (ag8 a0 a1 a3).bind fun y3=>au2 y3.1 (ifB (y3.2 != 0) (some ((TTally.mk ByteArray.empty 0 0 0 false false),y3.2)) ((C2 a2).bind fun y20=>ifB (y20 != 0) (some ((TTally.mk ByteArray.empty 0 0 0 false false),y20)) (none))) (fun t4=>ifB (y3.2 != 0) (some ((TTally.mk ByteArray.empty 0 0 0 false false),y3.2)) ((C2 a2).bind fun y34=>ifB (y34 != 0) (some ((TTally.mk ByteArray.empty 0 0 0 false false),y34)) ((Z6 t4.1 t4.2.1 t4.2.2.1 t4.2.2.2.1 t4.2.2.2.2 a1 a2).bind fun y35=>some (y35.1,y35.2))))
def ah7 (bY9:(List TAct)) (bZ4:Int) (a1:ByteArray) (a2:ByteArray):Option (ByteArray × Int) :=
  (aw7 a2 (ByteArray.mk [47].toArray)).bind fun y1=>(ai5 [y1.1,y1.2.1]).bind fun y3=>(ifB (!y1.2.2) (some (.inl true)) (some (.inl (!y3.2))):Option (Bool ⊕ (ByteArray × Int))).bind fun k7=>Sum.fin k7 fun u5=>ifB u5 (some (ByteArray.empty,9)) (((v8 y3.1 0).bind fun e12=>(v8 y3.1 1).bind fun e13=>(O2 bY9 a1 (TFraction.mk e12 e13) bZ4).bind fun y14=>some (.inl (y14.1.Motion,y14.1.Yes,y14.1.No,y14.1.Of,y14.1.Over,y14.1.Accepted,y14.2)):Option ((ByteArray × Int × Int × Int × Bool × Bool × Int) ⊕ (ByteArray × Int))).bind fun k11=>Sum.fin k11 fun u8=>(N3 u8.2.2.2.2.2.1).bind fun y18=>(ifB (!u8.2.2.2.2.1) (some (.inl (ByteArray.mk [111,112,101,110].toArray))) (some (.inl y18)):Option (ByteArray ⊕ (ByteArray × Int))).bind fun k21=>Sum.fin k21 fun u19=>(l2 u8.2.1).bind fun y22=>(F8 y22 (ByteArray.mk [47].toArray)).bind fun c23=>(l2 u8.2.2.1).bind fun y24=>(F8 c23 y24).bind fun c25=>(F8 c25 (ByteArray.mk [47].toArray)).bind fun c26=>(l2 u8.2.2.2.1).bind fun y27=>(F8 c26 y27).bind fun c28=>(I4 [c28,u19]).bind fun y30=>some (y30,u8.2.2.2.2.2.2))
def p9 (bY9:(List TAct)) (bZ4:Int) (a1:(List ByteArray)):Option (ByteArray × Int × Int) :=
  (ifB ((a1.length:Int)==2) ((v8 a1 0).bind fun e4=>some (.inl (e4.toList==(ByteArray.mk [97,116].toArray).toList))) (some (.inl false)):Option (Bool ⊕ (ByteArray × Int × Int))).bind fun k3=>Sum.fin k3 fun u1=>ifB u1 ((v8 a1 1).bind fun e5=>(ah8 bY9 bZ4 e5).bind fun y6=>some (y6.1,y6.2.1,y6.2.2)) ((ifB ((a1.length:Int)==1) ((v8 a1 0).bind fun e10=>some (.inl (e10.toList==(ByteArray.mk [109,101,109,98,101,114,115].toArray).toList))) (some (.inl false)):Option (Bool ⊕ (ByteArray × Int × Int))).bind fun k9=>Sum.fin k9 fun u7=>ifB u7 ((N5 bY9 bZ4).bind fun y11=>(N4 y11.1).bind fun y13=>some (y13,y11.2,bZ4)) ((ifB ((a1.length:Int)==2) ((v8 a1 0).bind fun e19=>some (.inl (e19.toList==(ByteArray.mk [111,119,105,110,103].toArray).toList))) (some (.inl false)):Option (Bool ⊕ (ByteArray × Int × Int))).bind fun k18=>Sum.fin k18 fun u16=>ifB u16 ((v8 a1 1).bind fun e20=>(af6 bY9 bZ4 e20).bind fun y21=>some (y21.1,y21.2,bZ4)) ((ifB ((a1.length:Int)==1) ((v8 a1 0).bind fun e25=>some (.inl (e25.toList==(ByteArray.mk [112,117,114,115,101].toArray).toList))) (some (.inl false)):Option (Bool ⊕ (ByteArray × Int × Int))).bind fun k24=>Sum.fin k24 fun u22=>ifB u22 ((ag9 bY9 bZ4).bind fun y26=>(l2 y26.1).bind fun y27=>(I4 [y27]).bind fun y29=>some (y29,y26.2,bZ4)) ((ifB ((a1.length:Int)==1) ((v8 a1 0).bind fun e33=>some (.inl (e33.toList==(ByteArray.mk [111,112,101,110].toArray).toList))) (some (.inl false)):Option (Bool ⊕ (ByteArray × Int × Int))).bind fun k32=>Sum.fin k32 fun u30=>ifB u30 ((ak6 bY9 bZ4).bind fun y34=>(N4 y34.1).bind fun y36=>some (y36,y34.2,bZ4)) ((ifB ((a1.length:Int)==3) ((v8 a1 0).bind fun e42=>some (.inl (e42.toList==(ByteArray.mk [118,111,116,101].toArray).toList))) (some (.inl false)):Option (Bool ⊕ (ByteArray × Int × Int))).bind fun k41=>Sum.fin k41 fun u39=>ifB u39 ((v8 a1 1).bind fun e43=>(v8 a1 2).bind fun e44=>(ah7 bY9 bZ4 e43 e44).bind fun y45=>some (y45.1,y45.2,bZ4)) ((ifB ((a1.length:Int)==2) ((v8 a1 0).bind fun e49=>some (.inl (e49.toList==(ByteArray.mk [119,104,111].toArray).toList))) (some (.inl false)):Option (Bool ⊕ (ByteArray × Int × Int))).bind fun k48=>Sum.fin k48 fun u46=>ifB u46 ((v8 a1 1).bind fun e50=>(R6 bY9 e50 bZ4).bind fun y51=>(N4 y51.1).bind fun y53=>some (y53,y51.2,bZ4)) (some (ByteArray.empty,9,bZ4))))))))
def N9 (bY9:(List TAct)) (bZ4:Int) (a1:ByteArray):Option (ByteArray × Int) :=
  (af3 a1).bind fun y1=>(ifB y1.2 ((p9 bY9 bZ4 y1.1).bind fun y6=>some (.inl (y6.1,y6.2.1,y6.2.2))) (some (.inl (ByteArray.empty,9,bZ4))):Option ((ByteArray × Int × Int) ⊕ (ByteArray × Int))).bind fun k5=>Sum.fin k5 fun u3=>ifB (u3.2.1 != 0) ((l2 u3.2.1).bind fun y7=>(I4 [(ByteArray.mk [101,114,114,111,114].toArray),y7]).bind fun y9=>some (y9,u3.2.2)) (some (u3.1,u3.2.2))
def ae4 (a0:(List TAct)) (i6:Nat) (x7:ByteArray) (u9:(Int × ByteArray)):Option (Flow (Int × ByteArray) (ByteArray × Int)) :=
  (N9 a0 u9.1 x7).bind fun y13=>(af9 u9.2 y13.1).bind fun y14=>some (.nxt (y13.2,y14))
def Y0 (a0:(List TAct)) (a1:ByteArray):Option (ByteArray × Int) :=
  (W9 a0).bind fun y1=>ifB (y1 != 0) (some (ByteArray.empty,y1)) (ifB (decide ((a1.size:Int)>2000)) (some (ByteArray.empty,2)) ((ap4 a1).bind fun y2=>ifB (!y2.2) (some (ByteArray.empty,9)) ((l8 (ae4 a0) 0 y2.1 (0,ByteArray.empty)).bind fun f12=>Flow.fin f12 fun u9=>some (u9.2,0))))
def J0 (a0:Int) (a1:Int) (a2:Int):Option Bool :=
  ifB (decide (a1≤a0)) (some (decide (a0≤a2))) (some false)
def aj9 (a0:ByteArray) (a1:ByteArray) (i1:Nat) (x2:Nat) (u4:Unit):Option (Flow Unit Bool) :=
  (bf6 a0 (i1:Int)).bind fun c8=>(H1 a1 c8).bind fun y9=>ifB (decide (y9<0)) (some (.ret false)) (some (.nxt ()))
def O1 (a0:ByteArray) (a1:ByteArray):Option Bool :=
  (aE4 (a0.size:Int)).bind fun L10=>(l8 (aj9 a0 a1) 0 L10 ()).bind fun f7=>Flow.fin f7 fun u4=>some true
def I6 (a0:ByteArray):Option Bool :=
  (J0 (a0.size:Int) 1 40).bind fun y1=>ifB y1 ((az1 a0 0 1).bind fun c2=>(O1 c2 (ByteArray.mk [97,98,99,100,101,102,103,104,105,106,107,108,109,110,111,112,113,114,115,116,117,118,119,120,121,122].toArray)).bind fun y3=>ifB y3 ((O1 a0 (ByteArray.mk [97,98,99,100,101,102,103,104,105,106,107,108,109,110,111,112,113,114,115,116,117,118,119,120,121,122,48,49,50,51,52,53,54,55,56,57,45,95].toArray)).bind fun y4=>some y4) (some false)) (some false)
def M9 (a0:Int):Option Bool :=
  (J0 a0 0 345686399999).bind fun y1=>some y1
def au7 (a1:Int) (i1:Nat) (x2:Int) (u4:Unit):Option (Flow Unit Int) :=
  ifB (a1==x2) (some (.ret (i1:Int))) (some (.nxt ()))
def V6 (a0:(List Int)) (a1:Int):Option Int :=
  (l8 (au7 a1) 0 a0 ()).bind fun f7=>Flow.fin f7 fun u4=>some (-1)
def J8 (a0:(List Int)) (a1:Int):Option Bool :=
  (V6 a0 a1).bind fun y1=>some (decide (y1≥0))
def A1 (a0:(List Int)) (ch2:ByteArray) (ck7:Int) (ck6:Int) (cj7:Int) (ck5:ByteArray) (ck4:ByteArray) (ck3:Int) (ck2:Bool) (ck1:ByteArray) (ck0:Int):Option Bool :=
  (J8 a0 cj7).bind fun y1=>some y1
def U8 (a0:TAct):Option Int :=
  (I6 a0.Site).bind fun y2=>ifB (!y2) (some 5) (((J0 a0.No 1 1000000).bind fun y6=>ifB (!y6) (some (.inl true)) ((M9 a0.At).bind fun y7=>some (.inl (!y7))):Option (Bool ⊕ Int)).bind fun k5=>Sum.fin k5 fun u3=>ifB u3 (some 1) ((J0 a0.Kind 1 7).bind fun y8=>ifB (!y8) (some 4) ((A1 [1,2,3,5] a0.Site a0.No a0.At a0.Kind a0.Who a0.Motion a0.Cents a0.Yes a0.Of a0.Other).bind fun y11=>(ifB y11 ((I6 a0.Who).bind fun y15=>some (.inl (!y15,a0.Who))) (some (.inl (false,ByteArray.empty))):Option ((Bool × ByteArray) ⊕ Int)).bind fun k14=>Sum.fin k14 fun u12=>(A1 [4,5,6] a0.Site a0.No a0.At a0.Kind a0.Who a0.Motion a0.Cents a0.Yes a0.Of a0.Other).bind fun y17=>(ifB y17 (ifB u12.1 (some (.inl (true,a0.Motion))) ((I6 a0.Motion).bind fun y21=>some (.inl (!y21,a0.Motion)))) (some (.inl (u12.1,ByteArray.empty))):Option ((Bool × ByteArray) ⊕ Int)).bind fun k20=>Sum.fin k20 fun u18=>(A1 [7] a0.Site a0.No a0.At a0.Kind a0.Who a0.Motion a0.Cents a0.Yes a0.Of a0.Other).bind fun y23=>(ifB y23 (ifB u18.1 (some (.inl (true,a0.Of,a0.Other))) ((I6 a0.Of).bind fun y27=>some (.inl (!y27,a0.Of,a0.Other)))) (some (.inl (u18.1,ByteArray.empty,0))):Option ((Bool × ByteArray × Int) ⊕ Int)).bind fun k26=>Sum.fin k26 fun u24=>ifB u24.1 (some 5) ((A1 [1,3] a0.Site a0.No a0.At a0.Kind a0.Who a0.Motion a0.Cents a0.Yes a0.Of a0.Other).bind fun y29=>(ifB y29 (((J0 a0.Cents 0 1000000000).bind fun y36=>ifB (!y36) (some (.inl true)) ((A1 [3] a0.Site a0.No a0.At a0.Kind a0.Who a0.Motion a0.Cents a0.Yes a0.Of a0.Other).bind fun y38=>ifB y38 (some (.inl (a0.Cents==0))) (some (.inl false))):Option (Bool ⊕ (Int ⊕ Int))).bind fun k35=>Sum.fin k35 fun u33=>ifB u33 (some (.inr 1)) (some (.inl a0.Cents))) (some (.inl 0)):Option (Int ⊕ Int)).bind fun k32=>Sum.fin k32 fun u30=>((A1 [7] a0.Site a0.No a0.At a0.Kind a0.Who a0.Motion a0.Cents a0.Yes a0.Of a0.Other).bind fun y43=>ifB y43 ((J0 a0.Other 1 1000000).bind fun y44=>some (.inl (!y44))) (some (.inl false)):Option (Bool ⊕ Int)).bind fun k41=>Sum.fin k41 fun u39=>ifB u39 (some 1) ((A1 [5] a0.Site a0.No a0.At a0.Kind a0.Who a0.Motion a0.Cents a0.Yes a0.Of a0.Other).bind fun y46=>(ifB y46 (some (.inl a0.Yes)) (some (.inl false)):Option (Bool ⊕ Int)).bind fun k49=>Sum.fin k49 fun u47=>ifB (!(decide (a0=(TAct.mk a0.Site a0.No a0.At a0.Kind u12.2 u18.2 u30 u47 u24.2.1 u24.2.2)))) (some 3) (some 0))))))
def Z0 (a0:TAct) (a1:TAct):Option Bool :=
  ifB (a0.Site.toList==a1.Site.toList) (some (a0.No==a1.No)) (some false)
def N1 (a0:TAct) (ch2:ByteArray) (ck7:Int) (ck6:Int) (cj7:Int) (ck5:ByteArray) (ck4:ByteArray) (ck3:Int) (ck2:Bool) (ck1:ByteArray) (ck0:Int):Option Bool :=
  (Z0 a0 (TAct.mk ch2 ck7 ck6 cj7 ck5 ck4 ck3 ck2 ck1 ck0)).bind fun y2=>some y2
def P3 (ch1:ByteArray) (ci2:Int) (ci1:Int) (ci0:Int) (ch9:ByteArray) (ch8:ByteArray) (ch7:Int) (ch6:Bool) (ch5:ByteArray) (ch4:Int) (i1:Nat) (x2:TAct) (u4:Unit):Option (Flow Unit Int) :=
  (N1 x2 ch1 ci2 ci1 ci0 ch9 ch8 ch7 ch6 ch5 ch4).bind fun y8=>ifB y8 (some (.ret (i1:Int))) (some (.nxt ()))
def r6 (a0:(List TAct)) (ch1:ByteArray) (ci2:Int) (ci1:Int) (ci0:Int) (ch9:ByteArray) (ch8:ByteArray) (ch7:Int) (ch6:Bool) (ch5:ByteArray) (ch4:Int):Option Int :=
  (l8 (P3 ch1 ci2 ci1 ci0 ch9 ch8 ch7 ch6 ch5 ch4) 0 a0 ()).bind fun f7=>Flow.fin f7 fun u4=>some (-1)
def p8 (a0:(List TAct)) (ch1:ByteArray) (ci2:Int) (ci1:Int) (ci0:Int) (ch9:ByteArray) (ch8:ByteArray) (ch7:Int) (ch6:Bool) (ch5:ByteArray) (ch4:Int):Option Bool :=
  (r6 a0 ch1 ci2 ci1 ci0 ch9 ch8 ch7 ch6 ch5 ch4).bind fun y1=>some (decide (y1≥0))
def S8 (a0:(List TAct)) (i12:Nat) (x13:TAct) (u15:Unit):Option (Flow Unit Int) :=
  (aE1 a0 0 (i12:Int)).bind fun q20=>(p8 q20 x13.Site x13.No x13.At x13.Kind x13.Who x13.Motion x13.Cents x13.Yes x13.Of x13.Other).bind fun y21=>ifB y21 (some (.ret 6)) (some (.nxt ()))
def ab4 (a0:(List TAct)) (i1:Nat) (x2:TAct) (u4:Unit):Option (Flow Unit Int) :=
  (U8 x2).bind fun y9=>ifB (y9 != 0) (some (.ret y9)) (ifB (decide ((i1:Int)>0)) ((v8 a0 (w64 ((i1:Int) - 1))).bind fun e10=>(v7 e10 x2).bind fun y11=>ifB (decide (y11≥0)) (some (.ret 7)) (some (.nxt ()))) (some (.nxt ())))
def M0 (a0:(List TAct)):Option Int :=
  ifB (decide ((a0.length:Int)>2000)) (some 2) ((l8 (ab4 a0) 0 a0 ()).bind fun f7=>Flow.fin f7 fun u4=>(l8 (S8 a0) 0 a0 ()).bind fun f18=>Flow.fin f18 fun u15=>some 0)
def M8 (a0:Int):Option Int :=
  (M9 a0).bind fun y1=>ifB (!y1) (some 1) (some 0)
def ac5  (i1:Nat) (x2:Int) (u4:Unit):Option (Flow Unit Int) :=
  ifB (x2 != 0) (some (.ret x2)) (some (.nxt ()))
def U3 (a0:(List Int)):Option Int :=
  (l8 ac5 0 a0 ()).bind fun f7=>Flow.fin f7 fun u4=>some 0
def R2 (a0:(List TAct)) (a1:Int):Option Int :=
  (M0 a0).bind fun y1=>(M8 a1).bind fun y2=>(U3 [y1,y2]).bind fun y4=>some y4
def aj0 (a0:Bool) (a1:Int):Option Int :=
  ifB a0 (some a1) (some 0)
def R1 (a0:ByteArray):Option Int :=
  (I6 a0).bind fun y1=>(aj0 (!y1) 5).bind fun y2=>some y2
def N0 (a0:Int) (ch2:(List TAct)) (self_:(Int→(List TAct)→Option Bool)) (u1:Int):Option (Flow Int Bool) :=
  ifB (decide (u1<(ch2.length:Int))) (((v8 ch2 u1).bind fun e8=>ifB (e8.Kind==7) ((v8 ch2 u1).bind fun e9=>(v8 ch2 a0).bind fun e10=>ifB (e9.Of.toList==e10.Site.toList) ((v8 ch2 u1).bind fun e11=>(v8 ch2 a0).bind fun e12=>ifB (e11.Other==e12.No) ((self_ u1 ch2).bind fun y13=>some (.inl y13)) (some (.inl false))) (some (.inl false))) (some (.inl false)):Option (Bool ⊕ (Flow Int Bool))).bind fun k7=>Sum.fin k7 fun u5=>ifB u5 (some (.ret false)) (some (.nxt (w64 (u1+1))))) (some (.brk u1))
def E5 (self_:(Int→(List TAct)→Option Bool)) (a0:Int) (ch2:(List TAct)):Option Bool :=
  (J2 (N0 a0 ch2 self_) (w64 (a0+1))).bind fun f4=>Flow.fin f4 fun u1=>some true
def r7:Nat→Int→(List TAct)→Option Bool
  | 0=>fun _ _=>none
  | fu_+1=>E5 (r7 fu_)
def Q6 (u6:(List TAct)) (i17:Nat) (x18:TAct) (u21:(List Int)):Option (Flow (List Int) (List Int)) :=
  (r7 bP9 (i17:Int) u6).bind fun y26=>ifB y26 ((ah3 8 u21 [(i17:Int)]).bind fun q28=>some (.nxt q28)) (some (.nxt u21))
def ai6 (a1:Int) (i2:Nat) (x3:TAct) (u6:(List TAct)):Option (Flow (List TAct) (List Int)) :=
  ifB (decide (x3.At≤a1)) ((ah3 112 u6 [x3]).bind fun q13=>some (.nxt q13)) (some (.nxt u6))
def P4 (a0:(List TAct)) (a1:Int):Option (List Int) :=
  (l8 (ai6 a1) 0 a0 []).bind fun f9=>Flow.fin f9 fun u6=>(l8 (Q6 u6) 0 u6 []).bind fun f24=>Flow.fin f24 fun u21=>some u21
def w4 (bY9:(List (ByteArray × (List Tgleeref2_stay)))) (bZ4:(List (ByteArray × Int))) (ca7:(List (ByteArray × (Bool × (List ByteArray) × (List (ByteArray × Bool)))))) (cc5:(List Int)) (a1:ByteArray):Option Bool :=
  ifB (decide ((((lkM bY9 a1).getD []).length:Int)>0)) ((v8 ((lkM bY9 a1).getD []) (w64 ((((lkM bY9 a1).getD []).length:Int) - 1))).bind fun e1=>some (decide (e1.to_<0))) (some false)
def af4 (bY9:(List (ByteArray × (List Tgleeref2_stay)))) (bZ4:(List (ByteArray × Int))) (ca7:(List (ByteArray × (Bool × (List ByteArray) × (List (ByteArray × Bool)))))) (cc5:(List Int)) (i3:Nat) (x4:ByteArray) (u11:(List ByteArray)):Option (Flow (List ByteArray) (List ByteArray)) :=
  (w4 bY9 bZ4 ca7 cc5 x4).bind fun y17=>ifB y17 ((ah3 16 u11 [x4]).bind fun q19=>some (.nxt q19)) (some (.nxt u11))
def D1 (bY9:(List (ByteArray × (List Tgleeref2_stay)))) (bZ4:(List (ByteArray × Int))) (ca7:(List (ByteArray × (Bool × (List ByteArray) × (List (ByteArray × Bool)))))) (cc5:(List Int)):Option (List ByteArray) :=
  aw9 (bY9.map Prod.fst) fun L14=>(l8 (af4 bY9 bZ4 ca7 cc5) 0 L14 []).bind fun f23=>Flow.fin f23 fun u11=>(o8 u11).bind fun y22=>some y22
def M4 (bY9:(List (ByteArray × (List Tgleeref2_stay)))) (bZ4:(List (ByteArray × Int))) (ca7:(List (ByteArray × (Bool × (List ByteArray) × (List (ByteArray × Bool)))))) (cc5:(List Int)) (a1:TAct):Option (Bool × (List (ByteArray × (List Tgleeref2_stay))) × (List (ByteArray × Int)) × (List (ByteArray × (Bool × (List ByteArray) × (List (ByteArray × Bool)))))) :=
  au2 (lkM ca7 a1.Motion) (ifB (a1.Kind==1) ((w4 bY9 bZ4 ca7 cc5 a1.Who).bind fun y7=>ifB y7 (some (false,bY9,bZ4,ca7)) ((ah3 24 ((lkM bY9 a1.Who).getD []) [(Tgleeref2_stay.mk a1.At (-1) a1.Cents)]).bind fun q10=>some (true,q9 bY9 a1.Who q10,bZ4,ca7))) (ifB (a1.Kind==2) ((w4 bY9 bZ4 ca7 cc5 a1.Who).bind fun y19=>ifB (!y19) (some (false,bY9,bZ4,ca7)) ((v8 ((lkM bY9 a1.Who).getD []) (w64 ((((lkM bY9 a1.Who).getD []).length:Int) - 1))).bind fun e20=>some (true,ab0 bY9 a1.Who (((lkM bY9 a1.Who).getD []).set ((w64 ((((lkM bY9 a1.Who).getD []).length:Int) - 1)).toNat) (Tgleeref2_stay.mk e20.from_ a1.At e20.cents)),bZ4,ca7))) (ifB (a1.Kind==3) (some (true,bY9,q9 bZ4 a1.Who (w64 (((lkM bZ4 a1.Who).getD 0)+a1.Cents)),ca7)) (ifB (a1.Kind==4) (some (true,bY9,bZ4,q9 ca7 a1.Motion (true,([]:List ByteArray),([]:(List (ByteArray × Bool)))))) (ifB (a1.Kind==5) ((some (.inl true):Option (Bool ⊕ (Bool × (List (ByteArray × (List Tgleeref2_stay))) × (List (ByteArray × Int)) × (List (ByteArray × (Bool × (List ByteArray) × (List (ByteArray × Bool)))))))).bind fun k36=>Sum.fin k36 fun u34=>ifB u34 (some (false,bY9,bZ4,ca7)) (none)) (ifB (a1.Kind==6) ((some (.inl true):Option (Bool ⊕ (Bool × (List (ByteArray × (List Tgleeref2_stay))) × (List (ByteArray × Int)) × (List (ByteArray × (Bool × (List ByteArray) × (List (ByteArray × Bool)))))))).bind fun k39=>Sum.fin k39 fun u37=>ifB u37 (some (false,bY9,bZ4,ca7)) ((D1 bY9 bZ4 ca7 cc5).bind fun y40=>none)) (some (true,bY9,bZ4,ca7)))))))) (fun t5=>ifB (a1.Kind==1) ((w4 bY9 bZ4 ca7 cc5 a1.Who).bind fun y48=>ifB y48 (some (false,bY9,bZ4,ca7)) ((ah3 24 ((lkM bY9 a1.Who).getD []) [(Tgleeref2_stay.mk a1.At (-1) a1.Cents)]).bind fun q51=>some (true,q9 bY9 a1.Who q51,bZ4,ca7))) (ifB (a1.Kind==2) ((w4 bY9 bZ4 ca7 cc5 a1.Who).bind fun y60=>ifB (!y60) (some (false,bY9,bZ4,ca7)) ((v8 ((lkM bY9 a1.Who).getD []) (w64 ((((lkM bY9 a1.Who).getD []).length:Int) - 1))).bind fun e61=>some (true,ab0 bY9 a1.Who (((lkM bY9 a1.Who).getD []).set ((w64 ((((lkM bY9 a1.Who).getD []).length:Int) - 1)).toNat) (Tgleeref2_stay.mk e61.from_ a1.At e61.cents)),bZ4,ca7))) (ifB (a1.Kind==3) (some (true,bY9,q9 bZ4 a1.Who (w64 (((lkM bZ4 a1.Who).getD 0)+a1.Cents)),ca7)) (ifB (a1.Kind==4) (some (false,bY9,bZ4,ca7)) (ifB (a1.Kind==5) ((ifB (!t5.1) (some (.inl true)) ((w4 bY9 bZ4 ca7 cc5 a1.Who).bind fun y77=>some (.inl (!y77))):Option (Bool ⊕ (Bool × (List (ByteArray × (List Tgleeref2_stay))) × (List (ByteArray × Int)) × (List (ByteArray × (Bool × (List ByteArray) × (List (ByteArray × Bool)))))))).bind fun k67=>Sum.fin k67 fun u65=>ifB u65 (some (false,bY9,bZ4,ca7)) (some (true,bY9,bZ4,ab0 ca7 a1.Motion (t5.1,t5.2.1,(q9 t5.2.2 a1.Who a1.Yes))))) (ifB (a1.Kind==6) ((some (.inl (!t5.1)):Option (Bool ⊕ (Bool × (List (ByteArray × (List Tgleeref2_stay))) × (List (ByteArray × Int)) × (List (ByteArray × (Bool × (List ByteArray) × (List (ByteArray × Bool)))))))).bind fun k88=>Sum.fin k88 fun u86=>ifB u86 (some (false,bY9,bZ4,ca7)) ((D1 bY9 bZ4 ca7 cc5).bind fun y95=>some (true,bY9,bZ4,ab0 ca7 a1.Motion (false,y95,t5.2.2)))) (some (true,bY9,bZ4,ca7))))))))
def Z1 (a0:(List TAct)) (i7:Nat) (x8:Int) (u11:((List (ByteArray × (Bool × (List ByteArray) × (List (ByteArray × Bool))))) × (List (ByteArray × Int)) × (List (ByteArray × (List Tgleeref2_stay))) × (List Int))):Option (Flow ((List (ByteArray × (Bool × (List ByteArray) × (List (ByteArray × Bool))))) × (List (ByteArray × Int)) × (List (ByteArray × (List Tgleeref2_stay))) × (List Int)) ((List (ByteArray × (List Tgleeref2_stay))) × (List (ByteArray × Int)) × (List (ByteArray × (Bool × (List ByteArray) × (List (ByteArray × Bool))))) × (List Int))) :=
  (v8 a0 x8).bind fun e16=>(M4 u11.2.2.1 u11.2.1 u11.1 u11.2.2.2 e16).bind fun y17=>ifB (!y17.1) ((ah3 8 u11.2.2.2 [x8]).bind fun q27=>some (.nxt (y17.2.2.2,y17.2.2.1,y17.2.1,q27))) (some (.nxt (y17.2.2.2,y17.2.2.1,y17.2.1,u11.2.2.2)))
def B1 (a0:(List TAct)) (a1:Int):Option ((List (ByteArray × (List Tgleeref2_stay))) × (List (ByteArray × Int)) × (List (ByteArray × (Bool × (List ByteArray) × (List (ByteArray × Bool))))) × (List Int)) :=
  (P4 a0 a1).bind fun y5=>(l8 (Z1 a0) 0 y5 ([],[],[],[])).bind fun f14=>Flow.fin f14 fun u11=>some (u11.2.2.1,u11.2.1,u11.1,u11.2.2.2)
def M5 (a2:Int) (x2:Tgleeref2_stay) (u9:(Int × Int)):Option (Flow (Int × Int) (Flow Int Int)) :=
  (ifB (decide (u9.2≤a2)) (ifB (decide (x2.to_<0)) (some (.inl true)) (some (.inl (decide (u9.2<x2.to_))))) (some (.inl false)):Option (Bool ⊕ (Flow (Int × Int) (Flow Int Int)))).bind fun k15=>Sum.fin k15 fun u13=>ifB u13 (some (.nxt (w64 (u9.1+x2.cents),w64 (u9.2+2592000000)))) (some (.brk (u9.1,u9.2)))
def V7 (a2:Int) (i1:Nat) (x2:Tgleeref2_stay) (u4:Int):Option (Flow Int Int) :=
  (J2 (M5 a2 x2) (u4,x2.from_)).bind fun f12=>Flow.fin f12 fun u9=>some (.nxt u9.1)
def U7 (bY9:(List (ByteArray × (List Tgleeref2_stay)))) (bZ4:(List (ByteArray × Int))) (ca7:(List (ByteArray × (Bool × (List ByteArray) × (List (ByteArray × Bool)))))) (cc5:(List Int)) (a1:ByteArray) (a2:Int):Option Int :=
  (l8 (V7 a2) 0 ((lkM bY9 a1).getD []) 0).bind fun f7=>Flow.fin f7 fun u4=>some u4
def ab3 (a0:(List TAct)) (a1:ByteArray) (a2:Int):Option (Int × Int) :=
  (B1 a0 a2).bind fun y1=>(U7 y1.1 y1.2.1 y1.2.2.1 y1.2.2.2 a1 a2).bind fun y15=>ifB (decide (y15>1000000000000)) (some (0,12)) (some (y15,0))
def L9 (a0:(List TAct)) (a1:ByteArray) (a2:Int):Option (Int × Int) :=
  (ab3 a0 a1 a2).bind fun y1=>(B1 a0 a2).bind fun y2=>(ifB (y1.2==0) (some (.inl (decide (((lkM y2.2.1 a1).getD 0)≤1000000000000)))) (some (.inl false)):Option (Bool ⊕ (Int × Int))).bind fun k18=>Sum.fin k18 fun u16=>ifB u16 (some (w64 (((lkM y2.2.1 a1).getD 0) - y1.1),0)) (some (0,12))
def X8 (a0:(List TAct)) (a1:ByteArray) (a2:Int):Option (Int × Bool) :=
  (B1 a0 a2).bind fun y1=>(w4 y1.1 y1.2.1 y1.2.2.1 y1.2.2.2 a1).bind fun y15=>ifB (!y15) (some (0,false)) ((v8 ((lkM y1.1 a1).getD []) (w64 ((((lkM y1.1 a1).getD []).length:Int) - 1))).bind fun e16=>some (e16.from_,true))
def Z4 (y1:((List (ByteArray × (List Tgleeref2_stay))) × (List (ByteArray × Int)) × (List (ByteArray × (Bool × (List ByteArray) × (List (ByteArray × Bool))))) × (List Int))) (i17:Nat) (x18:ByteArray) (u25:(List ByteArray)):Option (Flow (List ByteArray) (List ByteArray)) :=
  au2 (lkM y1.2.2.1 x18) (none) (fun t34=>ifB t34.1 ((ah3 16 u25 [x18]).bind fun q49=>some (.nxt q49)) (some (.nxt u25)))
def M7 (a0:(List TAct)) (a1:Int):Option (List ByteArray) :=
  (B1 a0 a1).bind fun y1=>aw9 (y1.2.2.1.map Prod.fst) fun L28=>(l8 (Z4 y1) 0 L28 []).bind fun f53=>Flow.fin f53 fun u25=>(o8 u25).bind fun y52=>some y52
def Z3 (a1:ByteArray) (y1:((List (ByteArray × (List Tgleeref2_stay))) × (List (ByteArray × Int)) × (List (ByteArray × (Bool × (List ByteArray) × (List (ByteArray × Bool))))) × (List Int))) (y20:(Int × Bool)) (i37:Nat) (x38:ByteArray) (u40:(List ByteArray)):Option (Flow (List ByteArray) ((List ByteArray) × Int)) :=
  ifB (!y20.2) (some (.nxt u40)) (au2 (lkM y1.2.2.1 x38) (none) (fun t48=>ifB (!(G3 t48.2.2 a1)) ((F8 (ByteArray.mk [118,111,116,101,32].toArray) x38).bind fun c56=>(ah3 16 u40 [c56]).bind fun q58=>some (.nxt q58)) (ifB ((lkM t48.2.2 a1).getD false) ((F8 (ByteArray.mk [121,101,115,32].toArray) x38).bind fun c60=>(ah3 16 u40 [c60]).bind fun q62=>some (.nxt q62)) ((F8 (ByteArray.mk [110,111,32].toArray) x38).bind fun c64=>(ah3 16 u40 [c64]).bind fun q66=>some (.nxt q66)))))
def F3 (a0:(List TAct)) (a1:ByteArray) (a2:Int):Option ((List ByteArray) × Int) :=
  (B1 a0 a2).bind fun y1=>(L9 a0 a1 a2).bind fun y15=>ifB (y15.2 != 0) (some ([],y15.2)) ((l2 y15.1).bind fun y17=>(F8 (ByteArray.mk [104,97,115,32].toArray) y17).bind fun c18=>(X8 a0 a1 a2).bind fun y20=>(ifB y20.2 ((l2 y20.1).bind fun y25=>(F8 (ByteArray.mk [109,101,109,98,101,114,32,115,105,110,99,101,32].toArray) y25).bind fun c26=>(v8 [(ByteArray.mk [110,111,32,109,101,109,98,101,114].toArray),c18] 0).bind fun e27=>some (.inl ([(ByteArray.mk [110,111,32,109,101,109,98,101,114].toArray),c18].set ((0:Int).toNat) c26))) (some (.inl [(ByteArray.mk [110,111,32,109,101,109,98,101,114].toArray),c18])):Option ((List ByteArray) ⊕ ((List ByteArray) × Int))).bind fun k24=>Sum.fin k24 fun u21=>(ifB (decide (y15.1<0)) ((l2 (w64 (0 - y15.1))).bind fun y32=>(F8 (ByteArray.mk [111,119,101,115,32].toArray) y32).bind fun c33=>(v8 u21 1).bind fun e34=>some (.inl (u21.set ((1:Int).toNat) c33))) (some (.inl u21)):Option ((List ByteArray) ⊕ ((List ByteArray) × Int))).bind fun k31=>Sum.fin k31 fun u28=>(M7 a0 a2).bind fun y35=>(l8 (Z3 a1 y1 y20) 0 y35 u28).bind fun f43=>Flow.fin f43 fun u40=>some (u40,0))
def O5 (a1:(List ByteArray)) (i1:Nat) (x2:ByteArray) (u4:Unit):Option (Flow Unit Bool) :=
  (v8 a1 (i1:Int)).bind fun e8=>ifB (!(x2.toList==e8.toList)) (some (.ret false)) (some (.nxt ()))
def x6 (a0:(List ByteArray)) (a1:(List ByteArray)):Option Bool :=
  ifB ((a0.length:Int) != (a1.length:Int)) (some false) ((l8 (O5 a1) 0 a0 ()).bind fun f7=>Flow.fin f7 fun u4=>some true)
def P8  : Option Bool :=
  (N5 [(TAct.mk (ByteArray.mk [97].toArray) 1 0 1 (ByteArray.mk [97,110,110].toArray) ByteArray.empty 0 false ByteArray.empty 0)] 0).bind fun y2=>ifB (y2.2==0) ((x6 y2.1 [(ByteArray.mk [97,110,110].toArray)]).bind fun y5=>some y5) (some false)
def N7 (a0:ByteArray) (a1:ByteArray):Option Bool :=
  (E8 a0 a1).bind fun y1=>some y1
def I3 (s:ByteArray):Option (ByteArray × ByteArray) :=
  (H1 s 10).bind fun y1=>ifB (decide (y1≥0)) ((az1 s 0 (w64 (y1+1))).bind fun c2=>(az1 s (w64 (y1+1)) (s.size:Int)).bind fun c3=>some (c2,c3)) (some (s,ByteArray.empty))
def aa5 (a0:ByteArray) (a1:ByteArray):Option ByteArray :=
  (E8 a0 a1).bind fun y1=>ifB y1 ((az1 a0 0 (w64 ((a0.size:Int) - (a1.size:Int)))).bind fun c2=>some c2) (some a0)
def I2 (a0:ByteArray) (a1:ByteArray):Option ByteArray :=
  (aa5 a0 a1).bind fun y1=>some y1
def R0 (a0:(List TAct)) (a1:Int):Option (List ByteArray) :=
  (B1 a0 a1).bind fun y1=>(D1 y1.1 y1.2.1 y1.2.2.1 y1.2.2.2).bind fun y15=>some y15
def Y4  (i17:Nat) (x18:(ByteArray × Int)) (u22:Int):Option (Flow Int (Int × Int)) :=
  some (.nxt (w64 (u22+x18.2)))
def P6 (a0:(List TAct)) (a1:Int):Option (Int × Int) :=
  (B1 a0 a1).bind fun y1=>aw9 y1.2.1 fun L25=>(l8 Y4 0 L25 0).bind fun f26=>Flow.fin f26 fun u22=>ifB (decide (u22>1000000000000)) (some (0,12)) (some (u22,0))
def aa6 (a0:ByteArray) (a1:ByteArray):Option ByteArray :=
  (S7 a0 a1).bind fun y1=>ifB y1 ((az1 a0 (a1.size:Int) (a0.size:Int)).bind fun c2=>some c2) (some a0)
def af1 (a0:ByteArray) (a1:ByteArray):Option ByteArray :=
  (aa6 a0 a1).bind fun y1=>some y1
def Z5 (a0:ByteArray) (a1:Int):Option (Int × Bool) :=
  (af1 a0 (ByteArray.mk [45].toArray)).bind fun y1=>(ifB (y1.toList==ByteArray.empty.toList) (some (.inl true)) (ifB (decide ((y1.size:Int)>a1)) (some (.inl true)) ((O1 y1 (ByteArray.mk [48,49,50,51,52,53,54,55,56,57].toArray)).bind fun y5=>some (.inl (!y5)))):Option (Bool ⊕ (Int × Bool))).bind fun k4=>Sum.fin k4 fun u2=>ifB u2 (some (0,false)) ((al5 a0).bind fun y6=>(l2 y6.1).bind fun y7=>some (y6.1,y7.toList==a0.toList))
def I5 (a0:ByteArray) (a1:ByteArray) (cj6:(List (ByteArray × Int))):Option Int :=
  ifB (((lkM cj6 a0).getD 0) != ((lkM cj6 a1).getD 0)) ((L1 (w64 (((lkM cj6 a1).getD 0) - ((lkM cj6 a0).getD 0)))).bind fun y1=>some y1) ((D9 a0 a1).bind fun y2=>some y2)
def O9 (a1:Int) (ci4:(List (ByteArray × Int))) (u5:(Int × (List ByteArray))):Option (Flow (Int × (List ByteArray)) (Flow (Int × (List ByteArray)) (List ByteArray))) :=
  ifB (decide (u5.1>a1)) ((v8 u5.2 u5.1).bind fun e9=>(v8 u5.2 (w64 (u5.1 - 1))).bind fun e10=>(I5 e9 e10 ci4).bind fun y11=>ifB (decide (y11<0)) ((v8 u5.2 (w64 (u5.1 - 1))).bind fun e12=>(v8 u5.2 u5.1).bind fun e13=>(v8 u5.2 u5.1).bind fun e14=>(v8 (u5.2.set u5.1.toNat e12) (w64 (u5.1 - 1))).bind fun e15=>some (.nxt (w64 (u5.1 - 1),((u5.2.set u5.1.toNat e12).set ((w64 (u5.1 - 1)).toNat) e13)))) (some (.brk (u5.1,u5.2)))) (some (.brk (u5.1,u5.2)))
def P0 (a1:Int) (a2:Int) (ci4:(List (ByteArray × Int))) (u1:(Int × (List ByteArray))):Option (Flow (Int × (List ByteArray)) (List ByteArray)) :=
  ifB (decide (u1.1<a2)) ((J2 (O9 a1 ci4) (u1.1,u1.2)).bind fun f8=>Flow.fin f8 fun u5=>some (.nxt (w64 (u1.1+1),u5.2))) (some (.brk (u1.1,u1.2)))
def r5 (a0:(List ByteArray)) (a1:Int) (a2:Int) (ci4:(List (ByteArray × Int))):Option (List ByteArray) :=
  (J2 (P0 a1 a2 ci4) (w64 (a1+1),a0)).bind fun f4=>Flow.fin f4 fun u1=>some u1.2
def B6 (a0:(List ByteArray)) (a1:Int) (a2:Int) (a3:Int) (ci6:(List (ByteArray × Int))) (u1:Unit):Option (Flow Unit (List ByteArray)) :=
  ifB (decide ((w64 (a2 - a1))≤12)) ((r5 a0 a1 a2 ci6).bind fun y5=>some (.ret y5)) (ifB (a3==0) (none) ((ifB (!true) (none) (some (.inl ())):Option (Unit ⊕ (Flow Unit (List ByteArray)))).bind fun k8=>Sum.fin k8 fun u6=>none))
def w3 (a0:(List ByteArray)) (a1:Int) (a2:Int) (a3:Int) (ci6:(List (ByteArray × Int))):Option (List ByteArray) :=
  (J2 (B6 a0 a1 a2 a3 ci6) ()).bind fun f4=>Flow.fin f4 fun u1=>some a0
def p6 (a0:(List ByteArray)) (ch1:(List (ByteArray × Int))):Option (List ByteArray) :=
  (an6 (IntKind.wrap .u64 (a0.length:Int))).bind fun y1=>(w3 a0 0 (a0.length:Int) y1 ch1).bind fun y2=>some y2
def ad8 (u27:((List (ByteArray × Int)) × (List ByteArray))) (i42:Nat) (x43:ByteArray) (u46:(List TPair)):Option (Flow (List TPair) ((List TPair) × Int)) :=
  (l2 ((lkM u27.1 x43).getD 0)).bind fun y51=>(ah3 32 u46 [(TPair.mk x43 y51)]).bind fun q53=>some (.nxt q53)
def C5 (a0:(List TAct)) (a1:Int) (a2:Int) (i19:Nat) (x20:ByteArray) (u27:((List (ByteArray × Int)) × (List ByteArray))):Option (Flow ((List (ByteArray × Int)) × (List ByteArray)) ((List TPair) × Int)) :=
  (L9 a0 x20 a2).bind fun y33=>ifB (y33.2 != 0) (some (.ret ([],y33.2))) (ifB (decide ((w64 (0 - y33.1))≥a1)) ((ah3 16 u27.2 [x20]).bind fun q36=>some (.nxt (q9 u27.1 x20 (w64 (0 - y33.1)),q36))) (some (.nxt (u27.1,u27.2))))
def P7 (a0:(List TAct)) (a1:Int) (a2:Int):Option ((List TPair) × Int) :=
  (B1 a0 a2).bind fun y3=>aw9 (y3.1.map Prod.fst) fun L30=>(l8 (C5 a0 a1 a2) 0 L30 ([],[])).bind fun f56=>Flow.fin f56 fun u27=>(p6 u27.2 u27.1).bind fun y41=>(l8 (ad8 u27) 0 y41 []).bind fun f49=>Flow.fin f49 fun u46=>some (u46,0)
def ac4  (i1:Nat) (x2:TPair) (u4:(List ByteArray)):Option (Flow (List ByteArray) (List ByteArray)) :=
  (F8 x2.Name (ByteArray.mk [32].toArray)).bind fun c9=>(F8 c9 x2.Value).bind fun c10=>(ah3 16 u4 [c10]).bind fun q12=>some (.nxt q12)
def N8 (a0:(List TPair)) (ch2:(List ByteArray)):Option (List ByteArray) :=
  (l8 ac4 0 a0 ch2).bind fun f7=>Flow.fin f7 fun u4=>some u4
def ay7 (a1:Int) (i1:Nat) (x2:ByteArray) (u5:(Bool × (List Int))):Option (Flow (Bool × (List Int)) ((List Int) × Bool)) :=
  (Z5 x2 a1).bind fun y10=>(ah3 8 u5.2 [y10.1]).bind fun q12=>ifB u5.1 (some (.nxt (y10.2,q12))) (some (.nxt (false,q12)))
def af5 (a0:(List ByteArray)) (a1:Int):Option ((List Int) × Bool) :=
  (l8 (ay7 a1) 0 a0 (true,[])).bind fun f8=>Flow.fin f8 fun u5=>some (u5.2,u5.1)
def C4  (u1:(Int × Int)):Option (Flow (Int × Int) Int) :=
  ifB (u1.2 != 0) ((aI3 u1.1 u1.2).bind fun z5=>some (.nxt (u1.2,z5))) (some (.brk (u1.1,u1.2)))
def G1 (a0:Int) (a1:Int):Option Int :=
  (J2 C4 (a0,a1)).bind fun f4=>Flow.fin f4 fun u1=>some (max u1.1 (w64 (0 - u1.1)))
def t8 (a0:TFraction):Option Int :=
  (ifB (decide (a0.Den<1)) (some (.inl true)) ((G1 a0.Num a0.Den).bind fun y5=>some (.inl (y5 != 1))):Option (Bool ⊕ Int)).bind fun k4=>Sum.fin k4 fun u2=>ifB u2 (some 3) ((ifB (decide (a0.Num<0)) (some (.inl true)) (some (.inl (decide (a0.Num>a0.Den)))):Option (Bool ⊕ Int)).bind fun k8=>Sum.fin k8 fun u6=>ifB u6 (some 1) (some 0))
def ad7  (i2:Nat) (x3:Nat) (u5:(Int × Int × Int × Int)):Option (Flow (Int × Int × Int × Int) Bool) :=
  (aK2 u5.1 u5.2.1).bind fun z9=>(aK2 u5.2.2.1 u5.2.2.2).bind fun z10=>ifB (z9 != z10) ((aK2 u5.1 u5.2.1).bind fun z11=>(aK2 u5.2.2.1 u5.2.2.2).bind fun z12=>some (.ret (decide (z11>z12)))) ((aI3 u5.1 u5.2.1).bind fun z13=>(aI3 u5.2.2.1 u5.2.2.2).bind fun z14=>ifB (z14==0) (some (.ret true)) (ifB (z13==0) (some (.ret false)) (some (.nxt (u5.2.2.2,z14,u5.2.1,z13)))))
def L4 (a0:Int) (a1:Int) (a2:TFraction):Option Bool :=
  (aE4 200).bind fun L15=>(l8 ad7 0 L15 (a0,a1,a2.Num,a2.Den)).bind fun f8=>Flow.fin f8 fun u5=>some true
def ap6 (a2:TFraction) (t20:(Bool × (List ByteArray) × (List (ByteArray × Bool)))) (u65:Int):Option (Flow Int (TTally × Int)) :=
  (ifB (decide (u65<(t20.2.1.length:Int))) ((L4 u65 (t20.2.1.length:Int) a2).bind fun y72=>some (.inl (!y72))) (some (.inl false)):Option (Bool ⊕ (Flow Int (TTally × Int)))).bind fun k71=>Sum.fin k71 fun u69=>ifB u69 (some (.nxt (w64 (u65+1)))) (some (.brk u65))
def ap7 (t20:(Bool × (List ByteArray) × (List (ByteArray × Bool)))) (i49:Nat) (x50:ByteArray) (u52:(Int × Int)):Option (Flow (Int × Int) (TTally × Int)) :=
  (ifB (G3 t20.2.2 x50) (some (.inl ((lkM t20.2.2 x50).getD false))) (some (.inl false)):Option (Bool ⊕ (Flow (Int × Int) (TTally × Int)))).bind fun k64=>Sum.fin k64 fun u62=>ifB u62 (some (.nxt (w64 (u52.1+1),u52.2))) (ifB (G3 t20.2.2 x50) (some (.nxt (u52.1,w64 (u52.2+1)))) (some (.nxt (u52.1,u52.2))))
def Z2 (a2:TFraction) (y28:(List ByteArray)) (u96:Int):Option (Flow Int (TTally × Int)) :=
  (ifB (decide (u96<(y28.length:Int))) ((L4 u96 (y28.length:Int) a2).bind fun y103=>some (.inl (!y103))) (some (.inl false)):Option (Bool ⊕ (Flow Int (TTally × Int)))).bind fun k102=>Sum.fin k102 fun u100=>ifB u100 (some (.nxt (w64 (u96+1)))) (some (.brk u96))
def ap5 (t20:(Bool × (List ByteArray) × (List (ByteArray × Bool)))) (i80:Nat) (x81:ByteArray) (u83:(Int × Int)):Option (Flow (Int × Int) (TTally × Int)) :=
  (ifB (G3 t20.2.2 x81) (some (.inl ((lkM t20.2.2 x81).getD false))) (some (.inl false)):Option (Bool ⊕ (Flow (Int × Int) (TTally × Int)))).bind fun k95=>Sum.fin k95 fun u93=>ifB u93 (some (.nxt (w64 (u83.1+1),u83.2))) (ifB (G3 t20.2.2 x81) (some (.nxt (u83.1,w64 (u83.2+1)))) (some (.nxt (u83.1,u83.2))))
def M6 (a0:(List TAct)) (a1:ByteArray) (a2:TFraction) (a3:Int):Option (TTally × Int) :=
  (B1 a0 a3).bind fun y3=>au2 (lkM y3.2.2.1 a1) (some ((TTally.mk ByteArray.empty 0 0 0 false false),8)) (fun t20=>(D1 y3.1 y3.2.1 y3.2.2.1 y3.2.2.2).bind fun y28=>ifB (!t20.1) ((l8 (ap7 t20) 0 t20.2.1 (0,0)).bind fun f55=>Flow.fin f55 fun u52=>(J2 (ap6 a2 t20) 0).bind fun f68=>Flow.fin f68 fun u65=>ifB (!t20.1) (ifB (decide (u52.1>u52.2)) (some ((TTally.mk a1 u52.1 u52.2 (t20.2.1.length:Int) (!t20.1) (decide ((w64 (u52.1+u52.2))≥u65))),0)) (some ((TTally.mk a1 u52.1 u52.2 (t20.2.1.length:Int) (!t20.1) false),0))) (some ((TTally.mk a1 u52.1 u52.2 (t20.2.1.length:Int) (!t20.1) false),0))) ((l8 (ap5 t20) 0 y28 (0,0)).bind fun f86=>Flow.fin f86 fun u83=>(J2 (Z2 a2 y28) 0).bind fun f99=>Flow.fin f99 fun u96=>ifB (!t20.1) (ifB (decide (u83.1>u83.2)) (some ((TTally.mk a1 u83.1 u83.2 (y28.length:Int) (!t20.1) (decide ((w64 (u83.1+u83.2))≥u96))),0)) (some ((TTally.mk a1 u83.1 u83.2 (y28.length:Int) (!t20.1) false),0))) (some ((TTally.mk a1 u83.1 u83.2 (y28.length:Int) (!t20.1) false),0))))
def ad6 (a0:(List TAct)) (a1:ByteArray) (a2:ByteArray) (a3:Int):Option ((List ByteArray) × Int) :=
  (E6 a2 (ByteArray.mk [47].toArray)).bind fun y1=>(af5 y1 15).bind fun y3=>(ifB ((y1.length:Int) != 2) (some (.inl true)) (some (.inl (!y3.2))):Option (Bool ⊕ ((List ByteArray) × Int))).bind fun k7=>Sum.fin k7 fun u5=>ifB u5 (some ([],9)) ((v8 y3.1 0).bind fun e9=>(v8 y3.1 1).bind fun e10=>(I6 a1).bind fun y12=>ifB (!y12) (some ([],5)) ((t8 (TFraction.mk e9 e10)).bind fun y14=>ifB (y14 != 0) (some ([],y14)) ((M6 a0 a1 (TFraction.mk e9 e10) a3).bind fun y16=>ifB (!y16.1.Over) ((l2 y16.1.Yes).bind fun y18=>(F8 y18 (ByteArray.mk [47].toArray)).bind fun c19=>(l2 y16.1.No).bind fun y20=>(F8 c19 y20).bind fun c21=>(F8 c21 (ByteArray.mk [47].toArray)).bind fun c22=>(l2 y16.1.Of).bind fun y23=>(F8 c22 y23).bind fun c24=>(F8 c24 (ByteArray.mk [32].toArray)).bind fun c25=>(F8 c25 (ByteArray.mk [111,112,101,110].toArray)).bind fun c26=>some ([c26],y16.2)) (ifB y16.1.Accepted ((l2 y16.1.Yes).bind fun y29=>(F8 y29 (ByteArray.mk [47].toArray)).bind fun c30=>(l2 y16.1.No).bind fun y31=>(F8 c30 y31).bind fun c32=>(F8 c32 (ByteArray.mk [47].toArray)).bind fun c33=>(l2 y16.1.Of).bind fun y34=>(F8 c33 y34).bind fun c35=>(F8 c35 (ByteArray.mk [32].toArray)).bind fun c36=>(F8 c36 (ByteArray.mk [121,101,115].toArray)).bind fun c37=>some ([c37],y16.2)) ((l2 y16.1.Yes).bind fun y40=>(F8 y40 (ByteArray.mk [47].toArray)).bind fun c41=>(l2 y16.1.No).bind fun y42=>(F8 c41 y42).bind fun c43=>(F8 c43 (ByteArray.mk [47].toArray)).bind fun c44=>(l2 y16.1.Of).bind fun y45=>(F8 c44 y45).bind fun c46=>(F8 c46 (ByteArray.mk [32].toArray)).bind fun c47=>(F8 c47 (ByteArray.mk [110,111].toArray)).bind fun c48=>some ([c48],y16.2))))))
def E0 (a0:(List TAct)) (a1:(List ByteArray)) (a2:Int):Option ((List ByteArray) × Int) :=
  (ifB ((a1.length:Int)==1) ((v8 a1 0).bind fun e5=>some (.inl (e5.toList==(ByteArray.mk [109,101,109,98,101,114,115].toArray).toList))) (some (.inl false)):Option (Bool ⊕ ((List ByteArray) × Int))).bind fun k4=>Sum.fin k4 fun u2=>ifB u2 ((R0 a0 a2).bind fun y6=>some (y6,0)) ((ifB ((a1.length:Int)==1) ((v8 a1 0).bind fun e11=>some (.inl (e11.toList==(ByteArray.mk [111,112,101,110].toArray).toList))) (some (.inl false)):Option (Bool ⊕ ((List ByteArray) × Int))).bind fun k10=>Sum.fin k10 fun u8=>ifB u8 ((M7 a0 a2).bind fun y12=>some (y12,0)) ((ifB ((a1.length:Int)==1) ((v8 a1 0).bind fun e17=>some (.inl (e17.toList==(ByteArray.mk [112,117,114,115,101].toArray).toList))) (some (.inl false)):Option (Bool ⊕ ((List ByteArray) × Int))).bind fun k16=>Sum.fin k16 fun u14=>ifB u14 ((P6 a0 a2).bind fun y18=>(l2 y18.1).bind fun y19=>some ([y19],y18.2)) ((ifB ((a1.length:Int)==2) ((v8 a1 0).bind fun e24=>some (.inl (e24.toList==(ByteArray.mk [111,119,105,110,103].toArray).toList))) (some (.inl false)):Option (Bool ⊕ ((List ByteArray) × Int))).bind fun k23=>Sum.fin k23 fun u21=>ifB u21 ((v8 a1 1).bind fun e25=>(Z5 e25 15).bind fun y26=>ifB (!y26.2) (some ([],9)) ((J0 y26.1 1 1000000000).bind fun y28=>ifB (!y28) (some ([],1)) ((P7 a0 y26.1 a2).bind fun y30=>(N8 y30.1 []).bind fun y33=>some (y33,y30.2)))) ((ifB ((a1.length:Int)==2) ((v8 a1 0).bind fun e38=>some (.inl (e38.toList==(ByteArray.mk [119,104,111].toArray).toList))) (some (.inl false)):Option (Bool ⊕ ((List ByteArray) × Int))).bind fun k37=>Sum.fin k37 fun u35=>ifB u35 ((v8 a1 1).bind fun e39=>(I6 e39).bind fun y40=>ifB (!y40) (some ([],5)) ((v8 a1 1).bind fun e42=>(F3 a0 e42 a2).bind fun y43=>some (y43.1,y43.2))) ((ifB ((a1.length:Int)==3) ((v8 a1 0).bind fun e48=>some (.inl (e48.toList==(ByteArray.mk [118,111,116,101].toArray).toList))) (some (.inl false)):Option (Bool ⊕ ((List ByteArray) × Int))).bind fun k47=>Sum.fin k47 fun u45=>ifB u45 ((v8 a1 1).bind fun e49=>(v8 a1 2).bind fun e50=>(ad6 a0 e49 e50 a2).bind fun y51=>some (y51.1,y51.2)) (some ([],9)))))))
def H8  (i44:Nat) (x45:ByteArray) (u47:ByteArray):Option (Flow ByteArray (Flow (ByteArray × Int) (ByteArray × Int))) :=
  (F8 x45 (ByteArray.mk [10].toArray)).bind fun c51=>(F8 u47 c51).bind fun c52=>some (.nxt c52)
def L7 (a0:(List TAct)) (i9:Nat) (x10:ByteArray) (u16:(ByteArray × Int)):Option (Flow (ByteArray × Int) (ByteArray × Int)) :=
  (I2 x10 (ByteArray.mk [10].toArray)).bind fun y20=>(E6 y20 (ByteArray.mk [32].toArray)).bind fun y21=>(E0 a0 y21 u16.2).bind fun y23=>(ifB ((y21.length:Int)==2) ((v8 y21 0).bind fun e28=>some (.inl (e28.toList==(ByteArray.mk [97,116].toArray).toList))) (some (.inl false)):Option (Bool ⊕ (Flow (ByteArray × Int) (ByteArray × Int)))).bind fun k27=>Sum.fin k27 fun u25=>(ifB u25 ((v8 y21 1).bind fun e33=>(Z5 e33 15).bind fun y34=>ifB y34.2 ((M9 y34.1).bind fun y36=>ifB y36 (some (.inl (0,y34.1,[(ByteArray.mk [111,107].toArray)]))) (some (.inl (1,u16.2,[(ByteArray.mk [111,107].toArray)])))) (some (.inl (y23.2,u16.2,y23.1)))) (some (.inl (y23.2,u16.2,y23.1))):Option ((Int × Int × (List ByteArray)) ⊕ (Flow (ByteArray × Int) (ByteArray × Int)))).bind fun k32=>Sum.fin k32 fun u29=>(ifB (u29.1 != 0) ((l2 u29.1).bind fun y41=>(F8 (ByteArray.mk [101,114,114,111,114,32].toArray) y41).bind fun c42=>some (.inl [c42])) (some (.inl u29.2.2)):Option ((List ByteArray) ⊕ (Flow (ByteArray × Int) (ByteArray × Int)))).bind fun k40=>Sum.fin k40 fun u37=>(l8 H8 0 u37 u16.1).bind fun f50=>Flow.fin f50 fun u47=>some (.nxt (u47,u29.2.1))
def L8 (a0:(List TAct)) (a1:ByteArray):Option (ByteArray × Int) :=
  ifB (decide ((a1.size:Int)>2000)) (some (ByteArray.empty,2)) ((ifB (!(a1.toList==ByteArray.empty.toList)) ((N7 a1 (ByteArray.mk [10].toArray)).bind fun y5=>some (.inl (!y5))) (some (.inl false)):Option (Bool ⊕ (ByteArray × Int))).bind fun k4=>Sum.fin k4 fun u2=>ifB u2 (some (ByteArray.empty,9)) ((bh5 I3 a1).bind fun L54=>(l8 (L7 a0) 0 L54 (ByteArray.empty,0)).bind fun f19=>Flow.fin f19 fun u16=>some (u16.1,0)))
def V9 (a0:(List Int)):Option Bool :=
  (B2 a0 0 0 16).bind fun y2=>(N2 a0 y2.2 y2.1).bind fun y3=>(n7 a0 y3.2 [(ByteArray.mk [97,110,110].toArray),(ByteArray.mk [98,111,98].toArray),(ByteArray.mk [122,101,100].toArray),(ByteArray.mk [65].toArray)]).bind fun y6=>(O6 a0 y6.2).bind fun y7=>(K7 a0 y7.2).bind fun y8=>(R6 y3.1 y6.1 y7.1).bind fun y9=>(Y0 y3.1 y8.1).bind fun y11=>(R2 y3.1 y7.1).bind fun y12=>(R1 y6.1).bind fun y13=>(U3 [y12,y13]).bind fun y15=>(ifB (y15==0) ((F3 y3.1 y6.1 y7.1).bind fun y20=>some (.inl (y20.2,y20.1))) (some (.inl (y15,[]))):Option ((Int × (List ByteArray)) ⊕ Bool)).bind fun k19=>Sum.fin k19 fun u16=>(ifB (y9.2 != u16.1) (some (.inl true)) ((x6 y9.1 u16.2).bind fun y26=>some (.inl (!y26))):Option (Bool ⊕ Bool)).bind fun k25=>Sum.fin k25 fun u23=>ifB u23 (some false) ((M0 y3.1).bind fun y27=>ifB (y27 != 0) ((ifB (y11.2==y27) (ifB (y11.1.toList==ByteArray.empty.toList) (P8.bind fun y31=>some (.inl y31)) (some (.inl false))) (some (.inl false)):Option (Bool ⊕ Bool)).bind fun k30=>Sum.fin k30 fun u28=>some u28) ((L8 y3.1 y8.1).bind fun y32=>ifB (y11.2==y32.2) (ifB (y11.1.toList==y32.1.toList) (P8.bind fun y33=>some y33) (some false)) (some false)))
end
end Go.G
