/- The models. Written by program. -/
import Derived.Test.YtlhfimbpjdfdgadGreatDoorXM
namespace Go.G
open Go Go.J
set_option linter.unusedVariables false
noncomputable section
structure Tgleemake_Stream where
  L : (List Int)
  at_ : Int
  deriving DecidableEq, Inhabited
structure TAct where
  Site : ByteArray
  No : Int
  At : Int
  Kind : Int
  Who : ByteArray
  Motion : ByteArray
  Cents : Int
  Yes : Bool
  Of : ByteArray
  Other : Int
  deriving DecidableEq, Inhabited
structure Tclub_own where
  site : ByteArray
  no : Int
  deriving DecidableEq, Inhabited
structure TBar where
  Beats : Int
  Unit : Int
  Close : Int
  Ending : Int
  Open : Bool
  deriving DecidableEq, Inhabited
structure TChord where
  Root : Int
  Kind : Int
  Turn : Int
  deriving DecidableEq, Inhabited
structure TCame where
  At : Int
  Singer : ByteArray
  Left : Bool
  deriving DecidableEq, Inhabited
structure TItem where
  Key : ByteArray
  Places : ByteArray
  Long : Int
  Parts : (List ByteArray)
  deriving DecidableEq, Inhabited
structure TProgram where
  Items : (List TItem)
  Change : Int
  Clap : Int
  Break : Int
  Half : Int
  deriving DecidableEq, Inhabited
structure Tclub_uses where
  who : Bool
  motion : Bool
  cents : Bool
  yes : Bool
  undo : Bool
  deriving DecidableEq, Inhabited
structure Tclub_words where
  l : (List ByteArray)
  bad : Bool
  deriving DecidableEq, Inhabited
structure TWindow where
  From : Int
  To : Int
  deriving DecidableEq, Inhabited
structure Tpiece_repeat where
  from_ : Int
  to_ : Int
  times : Int
  deriving DecidableEq, Inhabited
structure Tclub_stay where
  since : Int
  till : Int
  cents : Int
  deriving DecidableEq, Inhabited
def m_gleemake_Below (a0 : Int) (a1 : Int) : Option Int :=
  ifB (decide (a1 < 1)) (some 0) ((remM a0 a1).bind fun z1 => ifB (decide (z1 < 0)) (some (w64 (z1 + a1))) (some z1))
def m_gleemake_Stream_Next (a0_0 : (List Int)) (a0_1 : Int) (a1 : Int) : Option (Int × Int) :=
  ifB ((a0_0.length : Int) == 0) ((m_gleemake_Below (w64 ((w64 (a0_1 + 1)) * 7919)) a1).bind fun y1 => some (y1, w64 (a0_1 + 1))) ((remM (w64 ((w64 (a0_1 + 1)) - 1)) (a0_0.length : Int)).bind fun z2 => (quoM (w64 ((w64 (a0_1 + 1)) - 1)) (a0_0.length : Int)).bind fun z3 => (getI a0_0 z2).bind fun e4 => (m_gleemake_Below e4 1073741824).bind fun y5 => (m_gleemake_Below (w64 (y5 + (w64 (z3 * (w64 (7919 + z2)))))) a1).bind fun y6 => some (y6, w64 (a0_1 + 1)))
def m_gleemake_Stream_Range (a0_0 : (List Int)) (a0_1 : Int) (a1 : Int) (a2 : Int) : Option (Int × Int) :=
  ifB (decide (a2 < a1)) (some (a1, a0_1)) ((m_gleemake_Stream_Next a0_0 a0_1 (w64 ((w64 (a2 - a1)) + 1))).bind fun y1 => some (w64 (a1 + y1.1), y1.2))
def m_gleemake_Stream_Pick (a0_0 : (List Int)) (a0_1 : Int) (a1 : (List Int)) : Option (Int × Int) :=
  (m_gleemake_Stream_Next a0_0 a0_1 (a1.length : Int)).bind fun y1 => (getI a1 y1.1).bind fun e2 => some (e2, y1.2)
def m_gleemake_Stream_Some (a0_0 : (List Int)) (a0_1 : Int) (a1 : (List ByteArray)) : Option (ByteArray × Int) :=
  (m_gleemake_Stream_Next a0_0 a0_1 (a1.length : Int)).bind fun y1 => (getI a1 y1.1).bind fun e2 => some (e2, y1.2)
def m_gleemake_Stream_Flip (a0_0 : (List Int)) (a0_1 : Int) (a1 : Int) : Option (Bool × Int) :=
  (m_gleemake_Stream_Next a0_0 a0_1 a1).bind fun y1 => some (y1.1 == 0, y1.2)
def m_gleemake_Stream_Odd (a0_0 : (List Int)) (a0_1 : Int) (a1 : Int) (a2 : Int) : Option (Int × Int) :=
  (m_gleemake_Stream_Flip a0_0 a0_1 12).bind fun y1 => ifB y1.1 ((m_gleemake_Stream_Pick a0_0 y1.2 [w64 (a1 - 1), w64 (a2 + 1), a1, a2, (-1099511627776), 1099511627776]).bind fun y3 => some (y3.1, y3.2)) ((m_gleemake_Stream_Range a0_0 y1.2 a1 a2).bind fun y4 => some (y4.1, y4.2))
def m_gleeref2_sign (a0 : Int) : Option Int :=
  ifB (decide (a0 < 0)) (some (-1)) (ifB (decide (a0 > 0)) (some 1) (some 0))
def m_gleeref2_ActOrder (a0 : TAct) (a1 : TAct) : Option Int :=
  ifB (a0.At != a1.At) ((m_gleeref2_sign (w64 (a0.At - a1.At))).bind fun y3 => some y3) (ifB (!(a0.Site.toList == a1.Site.toList)) ((m_strings_Compare a0.Site a1.Site).bind fun y4 => some y4) ((m_gleeref2_sign (w64 (a0.No - a1.No))).bind fun y5 => some y5))
def m_slices_insertionSortCmpFunc_api_Act__gleeref2_ActOrder_l2 (a1 : Int) (u5 : (Int × (List TAct))) : Option (Flow (Int × (List TAct)) (Flow (Int × (List TAct)) (List TAct))) :=
  ifB (decide (u5.1 > a1)) ((getI u5.2 u5.1).bind fun e9 => (getI u5.2 (w64 (u5.1 - 1))).bind fun e10 => (m_gleeref2_ActOrder e9 e10).bind fun y11 => ifB (decide (y11 < 0)) ((getI u5.2 (w64 (u5.1 - 1))).bind fun e12 => (getI u5.2 u5.1).bind fun e13 => (getI u5.2 u5.1).bind fun e14 => (getI (u5.2.set u5.1.toNat e12) (w64 (u5.1 - 1))).bind fun e15 => some (.nxt (w64 (u5.1 - 1), ((u5.2.set u5.1.toNat e12).set ((w64 (u5.1 - 1)).toNat) e13)))) (some (.brk (u5.1, u5.2)))) (some (.brk (u5.1, u5.2)))
def m_slices_insertionSortCmpFunc_api_Act__gleeref2_ActOrder_l1 (a1 : Int) (a2 : Int) (u1 : (Int × (List TAct))) : Option (Flow (Int × (List TAct)) (List TAct)) :=
  ifB (decide (u1.1 < a2)) ((loopM (m_slices_insertionSortCmpFunc_api_Act__gleeref2_ActOrder_l2 a1) (u1.1, u1.2)).bind fun f8 => Flow.fin f8 fun u5 => some (.nxt (w64 (u1.1 + 1), u5.2))) (some (.brk (u1.1, u1.2)))
def m_slices_insertionSortCmpFunc_api_Act__gleeref2_ActOrder (a0 : (List TAct)) (a1 : Int) (a2 : Int) : Option (List TAct) :=
  (loopM (m_slices_insertionSortCmpFunc_api_Act__gleeref2_ActOrder_l1 a1 a2) (w64 (a1 + 1), a0)).bind fun f4 => Flow.fin f4 fun u1 => some u1.2
def m_slices_stableCmpFunc_api_Act__gleeref2_ActOrder_l3 (a1 : Int) (u7 : (Int × Int × Int)) (u11 : Unit) : Option (Flow Unit (Flow (Int × Int × Int) (List TAct))) :=
  ifB (decide ((w64 (2 * u7.1)) ≤ a1)) (none) (some (.brk ()))
def m_slices_stableCmpFunc_api_Act__gleeref2_ActOrder_l2 (a1 : Int) (u7 : (Int × Int × Int)) : Option (Flow (Int × Int × Int) (List TAct)) :=
  ifB (decide (u7.1 < a1)) ((loopM (m_slices_stableCmpFunc_api_Act__gleeref2_ActOrder_l3 a1 u7) ()).bind fun f14 => Flow.fin f14 fun u11 => ifB (decide ((w64 (0 + u7.1)) < a1)) (none) (some (.nxt (w64 (u7.1 * 2), 0, w64 (2 * u7.1))))) (some (.brk (u7.1, u7.2.1, u7.2.2)))
def m_slices_stableCmpFunc_api_Act__gleeref2_ActOrder_l1 (a1 : Int) (u1 : (Int × Int × (List TAct))) : Option (Flow (Int × Int × (List TAct)) (List TAct)) :=
  ifB (decide (u1.2.1 ≤ a1)) ((m_slices_insertionSortCmpFunc_api_Act__gleeref2_ActOrder u1.2.2 u1.1 u1.2.1).bind fun y5 => some (.nxt (u1.2.1, w64 (u1.2.1 + 20), y5))) (some (.brk (u1.1, u1.2.1, u1.2.2)))
def m_slices_stableCmpFunc_api_Act__gleeref2_ActOrder (a0 : (List TAct)) (a1 : Int) : Option (List TAct) :=
  (loopM (m_slices_stableCmpFunc_api_Act__gleeref2_ActOrder_l1 a1) (0, 20, a0)).bind fun f4 => Flow.fin f4 fun u1 => (m_slices_insertionSortCmpFunc_api_Act__gleeref2_ActOrder u1.2.2 u1.1 a1).bind fun y6 => (loopM (m_slices_stableCmpFunc_api_Act__gleeref2_ActOrder_l2 a1) (20, u1.1, u1.2.1)).bind fun f10 => Flow.fin f10 fun u7 => some y6
def m_slices_SortStableFunc_api_Act_api_Act__gleeref2_ActOrder (a0 : (List TAct)) : Option (List TAct) :=
  (m_slices_stableCmpFunc_api_Act__gleeref2_ActOrder a0 (a0.length : Int)).bind fun y1 => some y1
def m_gleemake_Stream_Acts_l1 (a0_0 : (List Int)) (i2 : Nat) (x3 : Nat) (u6 : (Int × Int × (List (ByteArray × Int)) × (List TAct))) : Option (Flow (Int × Int × (List (ByteArray × Int)) × (List TAct)) ((List TAct) × Int)) :=
  (m_gleemake_Stream_Pick a0_0 u6.2.1 [0, 1, 5, 5, 2592000000]).bind fun y12 => (m_gleemake_Stream_Some a0_0 y12.2 [(ByteArray.mk [115, 97].toArray), (ByteArray.mk [115, 97].toArray), (ByteArray.mk [115, 98].toArray), (ByteArray.mk [115, 99].toArray)]).bind fun y14 => (m_gleemake_Stream_Pick a0_0 y14.2 [1, 1, 1, 2, 3, 3, 4, 5, 5, 5, 6, 7]).bind fun y16 => (m_gleemake_Stream_Some a0_0 y16.2 [(ByteArray.mk [97, 110, 110].toArray), (ByteArray.mk [98, 111, 98].toArray), (ByteArray.mk [99, 105, 100].toArray), (ByteArray.mk [97, 110, 110].toArray)]).bind fun y21 => (m_gleemake_Stream_Some a0_0 y21.2 [(ByteArray.mk [104, 97, 116, 115].toArray), (ByteArray.mk [104, 97, 116, 115].toArray), (ByteArray.mk [116, 111, 117, 114].toArray)]).bind fun y23 => (ifB (y16.1 == 1) ((m_gleemake_Stream_Pick a0_0 y23.2 [0, 500, 700]).bind fun y28 => some (.inl (y28.2, y21.1, ByteArray.empty, y28.1, false, ByteArray.empty, 0))) (ifB (y16.1 == 2) (some (.inl (y23.2, y21.1, ByteArray.empty, 0, false, ByteArray.empty, 0))) (ifB (y16.1 == 3) ((m_gleemake_Stream_Pick a0_0 y23.2 [1, 500, 1200]).bind fun y30 => some (.inl (y30.2, y21.1, ByteArray.empty, y30.1, false, ByteArray.empty, 0))) ((ifB (y16.1 == 4) (some (.inl (y16.1 == 4))) (some (.inl (y16.1 == 6))) : Option (Bool ⊕ ((Int × ByteArray × ByteArray × Int × Bool × ByteArray × Int) ⊕ Flow (Int × Int × (List (ByteArray × Int)) × (List TAct)) ((List TAct) × Int)))).bind fun k33 => Sum.fin k33 fun u31 => ifB u31 (some (.inl (y23.2, ByteArray.empty, y23.1, 0, false, ByteArray.empty, 0))) (ifB (y16.1 == 5) ((m_gleemake_Stream_Flip a0_0 y23.2 2).bind fun y34 => some (.inl (y34.2, y21.1, y23.1, 0, y34.1, ByteArray.empty, 0))) ((m_gleemake_Stream_Some a0_0 y23.2 [(ByteArray.mk [115, 97].toArray), (ByteArray.mk [115, 97].toArray), (ByteArray.mk [115, 98].toArray)]).bind fun y36 => (m_gleemake_Stream_Range a0_0 y36.2 1 (max 1 ((lkM (putM u6.2.2.1 y14.1 (w64 (((lkM u6.2.2.1 y14.1).getD 0) + 1))) (ByteArray.mk [115, 97].toArray)).getD 0))).bind fun y37 => some (.inl (y37.2, ByteArray.empty, ByteArray.empty, 0, false, y36.1, y37.1))))))) : Option ((Int × ByteArray × ByteArray × Int × Bool × ByteArray × Int) ⊕ (Flow (Int × Int × (List (ByteArray × Int)) × (List TAct)) ((List TAct) × Int)))).bind fun k26 => Sum.fin k26 fun u24 => (m_gleemake_Stream_Flip a0_0 u24.1 100).bind fun y39 => (ifB y39.1 ((m_gleemake_Stream_Next a0_0 y39.2 4).bind fun y43 => ifB (y43.1 == 0) ((m_gleemake_Stream_Some a0_0 y43.2 [ByteArray.empty, (ByteArray.mk [115, 97].toArray)]).bind fun y45 => (m_gleemake_Stream_Odd a0_0 y45.2 1 9).bind fun y46 => some (.inl (y46.2, y45.1, y46.1, y16.1, u24.2.1, u24.2.2.1, u24.2.2.2.1, u24.2.2.2.2.1, u24.2.2.2.2.2.1, u24.2.2.2.2.2.2))) (ifB (y43.1 == 1) ((m_gleemake_Stream_Odd a0_0 y43.2 1 7).bind fun y47 => some (.inl (y47.2, y14.1, ((lkM (putM u6.2.2.1 y14.1 (w64 (((lkM u6.2.2.1 y14.1).getD 0) + 1))) y14.1).getD 0), y47.1, u24.2.1, u24.2.2.1, u24.2.2.2.1, u24.2.2.2.2.1, u24.2.2.2.2.2.1, u24.2.2.2.2.2.2))) (ifB (y43.1 == 2) ((m_gleemake_Stream_Some a0_0 y43.2 [ByteArray.empty, u24.2.1]).bind fun y49 => (m_gleemake_Stream_Some a0_0 y49.2 [(ByteArray.mk [65].toArray), u24.2.2.1]).bind fun y51 => (m_gleemake_Stream_Some a0_0 y51.2 [ByteArray.empty, u24.2.2.2.2.2.1]).bind fun y53 => some (.inl (y53.2, y14.1, ((lkM (putM u6.2.2.1 y14.1 (w64 (((lkM u6.2.2.1 y14.1).getD 0) + 1))) y14.1).getD 0), y16.1, y49.1, y51.1, u24.2.2.2.1, u24.2.2.2.2.1, y53.1, u24.2.2.2.2.2.2))) ((m_gleemake_Stream_Odd a0_0 y43.2 0 1000000000).bind fun y80 => (m_gleemake_Stream_Odd a0_0 y80.2 0 5).bind fun y81 => some (.inl (y81.2, y14.1, ((lkM (putM u6.2.2.1 y14.1 (w64 (((lkM u6.2.2.1 y14.1).getD 0) + 1))) y14.1).getD 0), y16.1, u24.2.1, u24.2.2.1, y80.1, !u24.2.2.2.2.1, u24.2.2.2.2.2.1, y81.1)))))) (some (.inl (y39.2, y14.1, ((lkM (putM u6.2.2.1 y14.1 (w64 (((lkM u6.2.2.1 y14.1).getD 0) + 1))) y14.1).getD 0), y16.1, u24.2.1, u24.2.2.1, u24.2.2.2.1, u24.2.2.2.2.1, u24.2.2.2.2.2.1, u24.2.2.2.2.2.2))) : Option ((Int × ByteArray × Int × Int × ByteArray × ByteArray × Int × Bool × ByteArray × Int) ⊕ (Flow (Int × Int × (List (ByteArray × Int)) × (List TAct)) ((List TAct) × Int)))).bind fun k42 => Sum.fin k42 fun u40 => (appM 112 u6.2.2.2 [(TAct.mk u40.2.1 u40.2.2.1 (w64 (u6.1 + y12.1)) u40.2.2.2.1 u40.2.2.2.2.1 u40.2.2.2.2.2.1 u40.2.2.2.2.2.2.1 u40.2.2.2.2.2.2.2.1 u40.2.2.2.2.2.2.2.2.1 u40.2.2.2.2.2.2.2.2.2)]).bind fun q83 => some (.nxt (w64 (u6.1 + y12.1), u40.1, putM u6.2.2.1 y14.1 (w64 (((lkM u6.2.2.1 y14.1).getD 0) + 1)), q83))
def m_gleemake_Stream_Acts (a0_0 : (List Int)) (a0_1 : Int) (a1 : Int) : Option ((List TAct) × Int) :=
  (rangeI a1).bind fun L87 => (rangeM (m_gleemake_Stream_Acts_l1 a0_0) 0 L87 (0, a0_1, [], [])).bind fun f9 => Flow.fin f9 fun u6 => (m_slices_SortStableFunc_api_Act_api_Act__gleeref2_ActOrder u6.2.2.2).bind fun y86 => some (y86, u6.2.1)
def m_gleeref2_in (a0 : Int) (a1 : Int) (a2 : Int) : Option Bool :=
  ifB (decide (a1 ≤ a0)) (some (decide (a0 ≤ a2))) (some false)
def m_gleeref2_only_l1 (a0 : ByteArray) (a1 : ByteArray) (i1 : Nat) (x2 : Nat) (u4 : Unit) : Option (Flow Unit Bool) :=
  (strI a0 (i1 : Int)).bind fun c8 => (m_strings_IndexByte a1 c8).bind fun y9 => ifB (decide (y9 < 0)) (some (.ret false)) (some (.nxt ()))
def m_gleeref2_only (a0 : ByteArray) (a1 : ByteArray) : Option Bool :=
  (rangeI (a0.size : Int)).bind fun L10 => (rangeM (m_gleeref2_only_l1 a0 a1) 0 L10 ()).bind fun f7 => Flow.fin f7 fun u4 => some true
def m_gleeref2_Key (a0 : ByteArray) : Option Bool :=
  (m_gleeref2_in (a0.size : Int) 1 40).bind fun y1 => ifB y1 ((strS a0 0 1).bind fun c2 => (m_gleeref2_only c2 (ByteArray.mk [97, 98, 99, 100, 101, 102, 103, 104, 105, 106, 107, 108, 109, 110, 111, 112, 113, 114, 115, 116, 117, 118, 119, 120, 121, 122].toArray)).bind fun y3 => ifB y3 ((m_gleeref2_only a0 (ByteArray.mk [97, 98, 99, 100, 101, 102, 103, 104, 105, 106, 107, 108, 109, 110, 111, 112, 113, 114, 115, 116, 117, 118, 119, 120, 121, 122, 48, 49, 50, 51, 52, 53, 54, 55, 56, 57, 45, 95].toArray)).bind fun y4 => some y4) (some false)) (some false)
def m_gleeref2_Moment (a0 : Int) : Option Bool :=
  (m_gleeref2_in a0 0 345686399999).bind fun y1 => some y1
def m_slices_Index_int_int_l1 (a1 : Int) (i1 : Nat) (x2 : Int) (u4 : Unit) : Option (Flow Unit Int) :=
  ifB (a1 == x2) (some (.ret (i1 : Int))) (some (.nxt ()))
def m_slices_Index_int_int (a0 : (List Int)) (a1 : Int) : Option Int :=
  (rangeM (m_slices_Index_int_int_l1 a1) 0 a0 ()).bind fun f7 => Flow.fin f7 fun u4 => some (-1)
def m_slices_Contains_int_int (a0 : (List Int)) (a1 : Int) : Option Bool :=
  (m_slices_Index_int_int a0 a1).bind fun y1 => some (decide (y1 ≥ 0))
def m_gleeref2_ActFault_1 (a0 : (List Int)) (a1_0 : ByteArray) (a1_1 : Int) (a1_2 : Int) (a1_3 : Int) (a1_4 : ByteArray) (a1_5 : ByteArray) (a1_6 : Int) (a1_7 : Bool) (a1_8 : ByteArray) (a1_9 : Int) : Option Bool :=
  (m_slices_Contains_int_int a0 a1_3).bind fun y1 => some y1
def m_gleeref2_ActFault (a0 : TAct) : Option Int :=
  (m_gleeref2_Key a0.Site).bind fun y2 => ifB (!y2) (some 5) (((m_gleeref2_in a0.No 1 1000000).bind fun y6 => ifB (!y6) (some (.inl true)) ((m_gleeref2_Moment a0.At).bind fun y7 => some (.inl (!y7))) : Option (Bool ⊕ Int)).bind fun k5 => Sum.fin k5 fun u3 => ifB u3 (some 1) ((m_gleeref2_in a0.Kind 1 7).bind fun y8 => ifB (!y8) (some 4) ((m_gleeref2_ActFault_1 [1, 2, 3, 5] a0.Site a0.No a0.At a0.Kind a0.Who a0.Motion a0.Cents a0.Yes a0.Of a0.Other).bind fun y11 => (ifB y11 ((m_gleeref2_Key a0.Who).bind fun y15 => some (.inl (!y15, a0.Who))) (some (.inl (false, ByteArray.empty))) : Option ((Bool × ByteArray) ⊕ Int)).bind fun k14 => Sum.fin k14 fun u12 => (m_gleeref2_ActFault_1 [4, 5, 6] a0.Site a0.No a0.At a0.Kind a0.Who a0.Motion a0.Cents a0.Yes a0.Of a0.Other).bind fun y17 => (ifB y17 (ifB u12.1 (some (.inl (true, a0.Motion))) ((m_gleeref2_Key a0.Motion).bind fun y21 => some (.inl (!y21, a0.Motion)))) (some (.inl (u12.1, ByteArray.empty))) : Option ((Bool × ByteArray) ⊕ Int)).bind fun k20 => Sum.fin k20 fun u18 => (m_gleeref2_ActFault_1 [7] a0.Site a0.No a0.At a0.Kind a0.Who a0.Motion a0.Cents a0.Yes a0.Of a0.Other).bind fun y23 => (ifB y23 (ifB u18.1 (some (.inl (true, a0.Of, a0.Other))) ((m_gleeref2_Key a0.Of).bind fun y27 => some (.inl (!y27, a0.Of, a0.Other)))) (some (.inl (u18.1, ByteArray.empty, 0))) : Option ((Bool × ByteArray × Int) ⊕ Int)).bind fun k26 => Sum.fin k26 fun u24 => ifB u24.1 (some 5) ((m_gleeref2_ActFault_1 [1, 3] a0.Site a0.No a0.At a0.Kind a0.Who a0.Motion a0.Cents a0.Yes a0.Of a0.Other).bind fun y29 => (ifB y29 (((m_gleeref2_in a0.Cents 0 1000000000).bind fun y36 => ifB (!y36) (some (.inl true)) ((m_gleeref2_ActFault_1 [3] a0.Site a0.No a0.At a0.Kind a0.Who a0.Motion a0.Cents a0.Yes a0.Of a0.Other).bind fun y38 => ifB y38 (some (.inl (a0.Cents == 0))) (some (.inl false))) : Option (Bool ⊕ (Int ⊕ Int))).bind fun k35 => Sum.fin k35 fun u33 => ifB u33 (some (.inr 1)) (some (.inl a0.Cents))) (some (.inl 0)) : Option (Int ⊕ Int)).bind fun k32 => Sum.fin k32 fun u30 => ((m_gleeref2_ActFault_1 [7] a0.Site a0.No a0.At a0.Kind a0.Who a0.Motion a0.Cents a0.Yes a0.Of a0.Other).bind fun y43 => ifB y43 ((m_gleeref2_in a0.Other 1 1000000).bind fun y44 => some (.inl (!y44))) (some (.inl false)) : Option (Bool ⊕ Int)).bind fun k41 => Sum.fin k41 fun u39 => ifB u39 (some 1) ((m_gleeref2_ActFault_1 [5] a0.Site a0.No a0.At a0.Kind a0.Who a0.Motion a0.Cents a0.Yes a0.Of a0.Other).bind fun y46 => (ifB y46 (some (.inl a0.Yes)) (some (.inl false)) : Option (Bool ⊕ Int)).bind fun k49 => Sum.fin k49 fun u47 => ifB (!(decide (a0 = (TAct.mk a0.Site a0.No a0.At a0.Kind u12.2 u18.2 u30 u47 u24.2.1 u24.2.2)))) (some 3) (some 0))))))
def m_gleeref2_oneAct (a0 : TAct) (a1 : TAct) : Option Bool :=
  ifB (a0.Site.toList == a1.Site.toList) (some (a0.No == a1.No)) (some false)
def m_gleeref2_ActsFault_1 (a0 : TAct) (a1_0 : ByteArray) (a1_1 : Int) (a1_2 : Int) (a1_3 : Int) (a1_4 : ByteArray) (a1_5 : ByteArray) (a1_6 : Int) (a1_7 : Bool) (a1_8 : ByteArray) (a1_9 : Int) : Option Bool :=
  (m_gleeref2_oneAct a0 (TAct.mk a1_0 a1_1 a1_2 a1_3 a1_4 a1_5 a1_6 a1_7 a1_8 a1_9)).bind fun y2 => some y2
def m_slices_IndexFunc_api_Act_api_Act__gleeref2_ActsFault_1_l1 (a1_c0_0 : ByteArray) (a1_c0_1 : Int) (a1_c0_2 : Int) (a1_c0_3 : Int) (a1_c0_4 : ByteArray) (a1_c0_5 : ByteArray) (a1_c0_6 : Int) (a1_c0_7 : Bool) (a1_c0_8 : ByteArray) (a1_c0_9 : Int) (i1 : Nat) (x2 : TAct) (u4 : Unit) : Option (Flow Unit Int) :=
  (m_gleeref2_ActsFault_1 x2 a1_c0_0 a1_c0_1 a1_c0_2 a1_c0_3 a1_c0_4 a1_c0_5 a1_c0_6 a1_c0_7 a1_c0_8 a1_c0_9).bind fun y8 => ifB y8 (some (.ret (i1 : Int))) (some (.nxt ()))
def m_slices_IndexFunc_api_Act_api_Act__gleeref2_ActsFault_1 (a0 : (List TAct)) (a1_c0_0 : ByteArray) (a1_c0_1 : Int) (a1_c0_2 : Int) (a1_c0_3 : Int) (a1_c0_4 : ByteArray) (a1_c0_5 : ByteArray) (a1_c0_6 : Int) (a1_c0_7 : Bool) (a1_c0_8 : ByteArray) (a1_c0_9 : Int) : Option Int :=
  (rangeM (m_slices_IndexFunc_api_Act_api_Act__gleeref2_ActsFault_1_l1 a1_c0_0 a1_c0_1 a1_c0_2 a1_c0_3 a1_c0_4 a1_c0_5 a1_c0_6 a1_c0_7 a1_c0_8 a1_c0_9) 0 a0 ()).bind fun f7 => Flow.fin f7 fun u4 => some (-1)
def m_slices_ContainsFunc_api_Act_api_Act__gleeref2_ActsFault_1 (a0 : (List TAct)) (a1_c0_0 : ByteArray) (a1_c0_1 : Int) (a1_c0_2 : Int) (a1_c0_3 : Int) (a1_c0_4 : ByteArray) (a1_c0_5 : ByteArray) (a1_c0_6 : Int) (a1_c0_7 : Bool) (a1_c0_8 : ByteArray) (a1_c0_9 : Int) : Option Bool :=
  (m_slices_IndexFunc_api_Act_api_Act__gleeref2_ActsFault_1 a0 a1_c0_0 a1_c0_1 a1_c0_2 a1_c0_3 a1_c0_4 a1_c0_5 a1_c0_6 a1_c0_7 a1_c0_8 a1_c0_9).bind fun y1 => some (decide (y1 ≥ 0))
def m_gleeref2_ActsFault_l2 (a0 : (List TAct)) (i12 : Nat) (x13 : TAct) (u15 : Unit) : Option (Flow Unit Int) :=
  (sliceI a0 0 (i12 : Int)).bind fun q20 => (m_slices_ContainsFunc_api_Act_api_Act__gleeref2_ActsFault_1 q20 x13.Site x13.No x13.At x13.Kind x13.Who x13.Motion x13.Cents x13.Yes x13.Of x13.Other).bind fun y21 => ifB y21 (some (.ret 6)) (some (.nxt ()))
def m_gleeref2_ActsFault_l1 (a0 : (List TAct)) (i1 : Nat) (x2 : TAct) (u4 : Unit) : Option (Flow Unit Int) :=
  (m_gleeref2_ActFault x2).bind fun y9 => ifB (y9 != 0) (some (.ret y9)) (ifB (decide ((i1 : Int) > 0)) ((getI a0 (w64 ((i1 : Int) - 1))).bind fun e10 => (m_gleeref2_ActOrder e10 x2).bind fun y11 => ifB (decide (y11 ≥ 0)) (some (.ret 7)) (some (.nxt ()))) (some (.nxt ())))
def m_gleeref2_ActsFault (a0 : (List TAct)) : Option Int :=
  ifB (decide ((a0.length : Int) > 2000)) (some 2) ((rangeM (m_gleeref2_ActsFault_l1 a0) 0 a0 ()).bind fun f7 => Flow.fin f7 fun u4 => (rangeM (m_gleeref2_ActsFault_l2 a0) 0 a0 ()).bind fun f18 => Flow.fin f18 fun u15 => some 0)
def m_gleemake_Stream_RightActs_l1 (a0_0 : (List Int)) (a1 : Int) (i1 : Nat) (x2 : Nat) (u4 : Int) : Option (Flow Int ((List TAct) × Int)) :=
  (m_gleemake_Stream_Acts a0_0 u4 a1).bind fun y8 => (m_gleeref2_ActsFault y8.1).bind fun y10 => ifB (y10 == 0) (some (.ret (y8.1, y8.2))) (some (.nxt y8.2))
def m_gleemake_Stream_RightActs (a0_0 : (List Int)) (a0_1 : Int) (a1 : Int) : Option ((List TAct) × Int) :=
  (rangeI 5).bind fun L12 => (rangeM (m_gleemake_Stream_RightActs_l1 a0_0 a1) 0 L12 a0_1).bind fun f7 => Flow.fin f7 fun u4 => some ([], u4)
def m_gleekeep2_parts_api_Act_l1 (a0_0 : (List Int)) (i1 : Nat) (x2 : TAct) (u6 : (Int × (List TAct) × (List TAct))) : Option (Flow (Int × (List TAct) × (List TAct)) ((List TAct) × (List TAct) × Int)) :=
  (m_gleemake_Stream_Next a0_0 u6.1 3).bind fun y13 => ifB (y13.1 == 0) ((appM 112 u6.2.1 [x2]).bind fun q15 => some (.nxt (y13.2, q15, u6.2.2))) (ifB (y13.1 == 1) ((appM 112 u6.2.2 [x2]).bind fun q18 => some (.nxt (y13.2, u6.2.1, q18))) ((appM 112 u6.2.1 [x2]).bind fun q21 => (appM 112 u6.2.2 [x2]).bind fun q24 => some (.nxt (y13.2, q21, q24))))
def m_gleekeep2_parts_api_Act (a0_0 : (List Int)) (a0_1 : Int) (a1 : (List TAct)) : Option ((List TAct) × (List TAct) × Int) :=
  (rangeM (m_gleekeep2_parts_api_Act_l1 a0_0) 0 a1 (a0_1, [], [])).bind fun f9 => Flow.fin f9 fun u6 => some (u6.2.1, u6.2.2, u6.1)
def m_kit_IsKey (a0 : ByteArray) : Option Bool :=
  ifB (!(a0.toList == ByteArray.empty.toList)) (ifB (decide ((a0.size : Int) ≤ 40)) ((strI a0 0).bind fun c1 => (m_strings_IndexByte (ByteArray.mk [97, 98, 99, 100, 101, 102, 103, 104, 105, 106, 107, 108, 109, 110, 111, 112, 113, 114, 115, 116, 117, 118, 119, 120, 121, 122].toArray) c1).bind fun y2 => ifB (decide (y2 ≥ 0)) ((m_strings_Trim a0 (ByteArray.mk [97, 98, 99, 100, 101, 102, 103, 104, 105, 106, 107, 108, 109, 110, 111, 112, 113, 114, 115, 116, 117, 118, 119, 120, 121, 122, 48, 49, 50, 51, 52, 53, 54, 55, 56, 57, 45, 95].toArray)).bind fun y3 => some (y3.toList == ByteArray.empty.toList)) (some false)) (some false)) (some false)
def m_kit_Outside (a0 : Int) (a1 : Int) (a2 : Int) : Option Bool :=
  ifB (decide (a0 < a1)) (some true) (some (decide (a0 > a2)))
def m_kit_IsMoment (a0 : Int) : Option Bool :=
  (m_kit_Outside a0 0 345686399999).bind fun y1 => some (!y1)
def m_club_usesOf (a0 : Int) : Option Tclub_uses :=
  ifB (a0 == 1) (ifB (a0 == 4) (ifB (a0 == 1) (some (Tclub_uses.mk true true true (a0 == 5) (a0 == 7))) (some (Tclub_uses.mk true true (a0 == 3) (a0 == 5) (a0 == 7)))) (ifB (a0 == 5) (ifB (a0 == 1) (some (Tclub_uses.mk true true true (a0 == 5) (a0 == 7))) (some (Tclub_uses.mk true true (a0 == 3) (a0 == 5) (a0 == 7)))) (ifB (a0 == 1) (some (Tclub_uses.mk true (a0 == 6) true (a0 == 5) (a0 == 7))) (some (Tclub_uses.mk true (a0 == 6) (a0 == 3) (a0 == 5) (a0 == 7)))))) (ifB (a0 == 2) (ifB (a0 == 4) (ifB (a0 == 1) (some (Tclub_uses.mk true true true (a0 == 5) (a0 == 7))) (some (Tclub_uses.mk true true (a0 == 3) (a0 == 5) (a0 == 7)))) (ifB (a0 == 5) (ifB (a0 == 1) (some (Tclub_uses.mk true true true (a0 == 5) (a0 == 7))) (some (Tclub_uses.mk true true (a0 == 3) (a0 == 5) (a0 == 7)))) (ifB (a0 == 1) (some (Tclub_uses.mk true (a0 == 6) true (a0 == 5) (a0 == 7))) (some (Tclub_uses.mk true (a0 == 6) (a0 == 3) (a0 == 5) (a0 == 7)))))) (ifB (a0 == 3) (ifB (a0 == 4) (ifB (a0 == 1) (some (Tclub_uses.mk true true true (a0 == 5) (a0 == 7))) (some (Tclub_uses.mk true true (a0 == 3) (a0 == 5) (a0 == 7)))) (ifB (a0 == 5) (ifB (a0 == 1) (some (Tclub_uses.mk true true true (a0 == 5) (a0 == 7))) (some (Tclub_uses.mk true true (a0 == 3) (a0 == 5) (a0 == 7)))) (ifB (a0 == 1) (some (Tclub_uses.mk true (a0 == 6) true (a0 == 5) (a0 == 7))) (some (Tclub_uses.mk true (a0 == 6) (a0 == 3) (a0 == 5) (a0 == 7)))))) (ifB (a0 == 4) (ifB (a0 == 1) (some (Tclub_uses.mk (a0 == 5) true true (a0 == 5) (a0 == 7))) (some (Tclub_uses.mk (a0 == 5) true (a0 == 3) (a0 == 5) (a0 == 7)))) (ifB (a0 == 5) (ifB (a0 == 1) (some (Tclub_uses.mk (a0 == 5) true true (a0 == 5) (a0 == 7))) (some (Tclub_uses.mk (a0 == 5) true (a0 == 3) (a0 == 5) (a0 == 7)))) (ifB (a0 == 1) (some (Tclub_uses.mk (a0 == 5) (a0 == 6) true (a0 == 5) (a0 == 7))) (some (Tclub_uses.mk (a0 == 5) (a0 == 6) (a0 == 3) (a0 == 5) (a0 == 7))))))))
def m_club_formed (a0 : TAct) : Option Int :=
  (m_kit_IsKey a0.Site).bind fun y2 => ifB (!y2) (some 5) (((m_kit_Outside a0.No 1 1000000).bind fun y6 => ifB y6 (some (.inl true)) ((m_kit_IsMoment a0.At).bind fun y7 => some (.inl (!y7))) : Option (Bool ⊕ Int)).bind fun k5 => Sum.fin k5 fun u3 => ifB u3 (some 1) ((m_kit_Outside a0.Kind 1 7).bind fun y8 => ifB y8 (some 4) ((m_club_usesOf a0.Kind).bind fun y9 => (ifB (a0.Kind == 3) (some (.inl 1)) (some (.inl 0)) : Option (Int ⊕ Int)).bind fun k13 => Sum.fin k13 fun u11 => (ifB y9.who ((m_kit_IsKey a0.Who).bind fun y17 => ifB (!y17) (some (.inl true)) (ifB y9.motion ((m_kit_IsKey a0.Motion).bind fun y18 => ifB (!y18) (some (.inl true)) (ifB y9.undo ((m_kit_IsKey a0.Of).bind fun y19 => some (.inl (!y19))) (some (.inl false)))) (ifB y9.undo ((m_kit_IsKey a0.Of).bind fun y20 => some (.inl (!y20))) (some (.inl false))))) (ifB y9.motion ((m_kit_IsKey a0.Motion).bind fun y21 => ifB (!y21) (some (.inl true)) (ifB y9.undo ((m_kit_IsKey a0.Of).bind fun y22 => some (.inl (!y22))) (some (.inl false)))) (ifB y9.undo ((m_kit_IsKey a0.Of).bind fun y23 => some (.inl (!y23))) (some (.inl false)))) : Option (Bool ⊕ Int)).bind fun k16 => Sum.fin k16 fun u14 => ifB u14 (some 5) ((ifB y9.cents ((m_kit_Outside a0.Cents u11 1000000000).bind fun y27 => ifB y27 (some (.inl true)) (ifB y9.undo ((m_kit_Outside a0.Other 1 1000000).bind fun y28 => some (.inl y28)) (some (.inl false)))) (ifB y9.undo ((m_kit_Outside a0.Other 1 1000000).bind fun y29 => some (.inl y29)) (some (.inl false))) : Option (Bool ⊕ Int)).bind fun k26 => Sum.fin k26 fun u24 => ifB u24 (some 1) ((ifB (!y9.who) (ifB (!(a0.Who.toList == ByteArray.empty.toList)) (some (.inl true)) (ifB (!y9.motion) (ifB (!(a0.Motion.toList == ByteArray.empty.toList)) (some (.inl true)) (ifB (!y9.cents) (ifB (a0.Cents != 0) (some (.inl true)) (ifB (!y9.yes) (ifB a0.Yes (some (.inl true)) (ifB (!y9.undo) (ifB (!(a0.Of.toList == ByteArray.empty.toList)) (some (.inl true)) (some (.inl (a0.Other != 0)))) (some (.inl false)))) (ifB (!y9.undo) (ifB (!(a0.Of.toList == ByteArray.empty.toList)) (some (.inl true)) (some (.inl (a0.Other != 0)))) (some (.inl false))))) (ifB (!y9.yes) (ifB a0.Yes (some (.inl true)) (ifB (!y9.undo) (ifB (!(a0.Of.toList == ByteArray.empty.toList)) (some (.inl true)) (some (.inl (a0.Other != 0)))) (some (.inl false)))) (ifB (!y9.undo) (ifB (!(a0.Of.toList == ByteArray.empty.toList)) (some (.inl true)) (some (.inl (a0.Other != 0)))) (some (.inl false)))))) (ifB (!y9.cents) (ifB (a0.Cents != 0) (some (.inl true)) (ifB (!y9.yes) (ifB a0.Yes (some (.inl true)) (ifB (!y9.undo) (ifB (!(a0.Of.toList == ByteArray.empty.toList)) (some (.inl true)) (some (.inl (a0.Other != 0)))) (some (.inl false)))) (ifB (!y9.undo) (ifB (!(a0.Of.toList == ByteArray.empty.toList)) (some (.inl true)) (some (.inl (a0.Other != 0)))) (some (.inl false))))) (ifB (!y9.yes) (ifB a0.Yes (some (.inl true)) (ifB (!y9.undo) (ifB (!(a0.Of.toList == ByteArray.empty.toList)) (some (.inl true)) (some (.inl (a0.Other != 0)))) (some (.inl false)))) (ifB (!y9.undo) (ifB (!(a0.Of.toList == ByteArray.empty.toList)) (some (.inl true)) (some (.inl (a0.Other != 0)))) (some (.inl false))))))) (ifB (!y9.motion) (ifB (!(a0.Motion.toList == ByteArray.empty.toList)) (some (.inl true)) (ifB (!y9.cents) (ifB (a0.Cents != 0) (some (.inl true)) (ifB (!y9.yes) (ifB a0.Yes (some (.inl true)) (ifB (!y9.undo) (ifB (!(a0.Of.toList == ByteArray.empty.toList)) (some (.inl true)) (some (.inl (a0.Other != 0)))) (some (.inl false)))) (ifB (!y9.undo) (ifB (!(a0.Of.toList == ByteArray.empty.toList)) (some (.inl true)) (some (.inl (a0.Other != 0)))) (some (.inl false))))) (ifB (!y9.yes) (ifB a0.Yes (some (.inl true)) (ifB (!y9.undo) (ifB (!(a0.Of.toList == ByteArray.empty.toList)) (some (.inl true)) (some (.inl (a0.Other != 0)))) (some (.inl false)))) (ifB (!y9.undo) (ifB (!(a0.Of.toList == ByteArray.empty.toList)) (some (.inl true)) (some (.inl (a0.Other != 0)))) (some (.inl false)))))) (ifB (!y9.cents) (ifB (a0.Cents != 0) (some (.inl true)) (ifB (!y9.yes) (ifB a0.Yes (some (.inl true)) (ifB (!y9.undo) (ifB (!(a0.Of.toList == ByteArray.empty.toList)) (some (.inl true)) (some (.inl (a0.Other != 0)))) (some (.inl false)))) (ifB (!y9.undo) (ifB (!(a0.Of.toList == ByteArray.empty.toList)) (some (.inl true)) (some (.inl (a0.Other != 0)))) (some (.inl false))))) (ifB (!y9.yes) (ifB a0.Yes (some (.inl true)) (ifB (!y9.undo) (ifB (!(a0.Of.toList == ByteArray.empty.toList)) (some (.inl true)) (some (.inl (a0.Other != 0)))) (some (.inl false)))) (ifB (!y9.undo) (ifB (!(a0.Of.toList == ByteArray.empty.toList)) (some (.inl true)) (some (.inl (a0.Other != 0)))) (some (.inl false)))))) : Option (Bool ⊕ Int)).bind fun k32 => Sum.fin k32 fun u30 => ifB u30 (some 3) (some 0))))))
def m_cmp_isNaN_int (a0 : Int) : Option Bool :=
  some (a0 != a0)
def m_cmp_Compare_int (a0 : Int) (a1 : Int) : Option Int :=
  (m_cmp_isNaN_int a0).bind fun y1 => (m_cmp_isNaN_int a1).bind fun y2 => ifB y1 (ifB y2 (some 0) (some (-1))) (ifB y2 (some 1) (ifB (decide (a0 < a1)) (some (-1)) (ifB (decide (a0 > a1)) (some 1) (some 0))))
def m_cmp_Or_int_l1  (i1 : Nat) (x2 : Int) (u4 : Unit) : Option (Flow Unit Int) :=
  ifB (x2 != 0) (some (.ret x2)) (some (.nxt ()))
def m_cmp_Or_int (a0 : (List Int)) : Option Int :=
  (rangeM m_cmp_Or_int_l1 0 a0 ()).bind fun f7 => Flow.fin f7 fun u4 => some 0
def m_club_compare (a0 : TAct) (a1 : TAct) : Option Int :=
  (m_cmp_Compare_int a0.At a1.At).bind fun y3 => (m_strings_Compare a0.Site a1.Site).bind fun y4 => (m_cmp_Compare_int a0.No a1.No).bind fun y5 => (m_cmp_Or_int [y3, y4, y5]).bind fun y7 => some y7
def m_club_CheckActs_l2  (i13 : Nat) (x14 : TAct) (u16 : (List (Tclub_own × Bool))) : Option (Flow (List (Tclub_own × Bool)) Int) :=
  ifB ((lkM u16 (Tclub_own.mk x14.Site x14.No)).getD false) (some (.ret 6)) (some (.nxt (putM u16 (Tclub_own.mk x14.Site x14.No) true)))
def m_club_CheckActs_l1 (a0 : (List TAct)) (i1 : Nat) (x2 : TAct) (u4 : Unit) : Option (Flow Unit Int) :=
  (m_club_formed x2).bind fun y9 => ifB (y9 != 0) (some (.ret y9)) (ifB (decide ((i1 : Int) > 0)) ((getI a0 (w64 ((i1 : Int) - 1))).bind fun e10 => (m_club_compare e10 x2).bind fun y11 => ifB (decide (y11 ≥ 0)) (some (.ret 7)) (some (.nxt ()))) (some (.nxt ())))
def m_club_CheckActs (a0 : (List TAct)) : Option Int :=
  ifB (decide ((a0.length : Int) > 2000)) (some 2) ((rangeM (m_club_CheckActs_l1 a0) 0 a0 ()).bind fun f7 => Flow.fin f7 fun u4 => (rangeM m_club_CheckActs_l2 0 a0 []).bind fun f19 => Flow.fin f19 fun u16 => some 0)
def m_slices_Grow_api_Act_api_Act__nil (a1 : Int) : Option (List TAct) :=
  ifB (decide (a1 < 0)) (none) (ifB (decide ((w64 (a1 - (w64 (0 - 0)))) > 0)) ((sliceI ([] : List TAct) 0 0).bind fun q2 => (growM 112 (w64 (a1 - (w64 (0 - 0))))).bind fun u3 => some []) (some []))
def m_slices_Concat_api_Act_api_Act_l2  (i10 : Nat) (x11 : (List TAct)) (u13 : (List TAct)) : Option (Flow (List TAct) (List TAct)) :=
  (appM 112 u13 x11).bind fun q18 => some (.nxt q18)
def m_slices_Concat_api_Act_api_Act_l1  (i1 : Nat) (x2 : (List TAct)) (u4 : Int) : Option (Flow Int (List TAct)) :=
  ifB (decide ((w64 (u4 + (x2.length : Int))) < 0)) (none) (some (.nxt (w64 (u4 + (x2.length : Int)))))
def m_slices_Concat_api_Act_api_Act (a0 : (List (List TAct))) : Option (List TAct) :=
  (rangeM m_slices_Concat_api_Act_api_Act_l1 0 a0 0).bind fun f7 => Flow.fin f7 fun u4 => (m_slices_Grow_api_Act_api_Act__nil u4).bind fun y8 => (rangeM m_slices_Concat_api_Act_api_Act_l2 0 a0 y8).bind fun f16 => Flow.fin f16 fun u13 => some u13
def m_bits_Len (a0 : Int) : Option Int :=
  (m_bits_Len64 a0).bind fun y1 => some y1
def m_slices_insertionSortCmpFunc_api_Act__club_compare_l2 (a1 : Int) (u5 : (Int × (List TAct))) : Option (Flow (Int × (List TAct)) (Flow (Int × (List TAct)) (List TAct))) :=
  ifB (decide (u5.1 > a1)) ((getI u5.2 u5.1).bind fun e9 => (getI u5.2 (w64 (u5.1 - 1))).bind fun e10 => (m_club_compare e9 e10).bind fun y11 => ifB (decide (y11 < 0)) ((getI u5.2 (w64 (u5.1 - 1))).bind fun e12 => (getI u5.2 u5.1).bind fun e13 => (getI u5.2 u5.1).bind fun e14 => (getI (u5.2.set u5.1.toNat e12) (w64 (u5.1 - 1))).bind fun e15 => some (.nxt (w64 (u5.1 - 1), ((u5.2.set u5.1.toNat e12).set ((w64 (u5.1 - 1)).toNat) e13)))) (some (.brk (u5.1, u5.2)))) (some (.brk (u5.1, u5.2)))
def m_slices_insertionSortCmpFunc_api_Act__club_compare_l1 (a1 : Int) (a2 : Int) (u1 : (Int × (List TAct))) : Option (Flow (Int × (List TAct)) (List TAct)) :=
  ifB (decide (u1.1 < a2)) ((loopM (m_slices_insertionSortCmpFunc_api_Act__club_compare_l2 a1) (u1.1, u1.2)).bind fun f8 => Flow.fin f8 fun u5 => some (.nxt (w64 (u1.1 + 1), u5.2))) (some (.brk (u1.1, u1.2)))
def m_slices_insertionSortCmpFunc_api_Act__club_compare (a0 : (List TAct)) (a1 : Int) (a2 : Int) : Option (List TAct) :=
  (loopM (m_slices_insertionSortCmpFunc_api_Act__club_compare_l1 a1 a2) (w64 (a1 + 1), a0)).bind fun f4 => Flow.fin f4 fun u1 => some u1.2
def m_slices_pdqsortCmpFunc_api_Act__club_compare_l1 (a0 : (List TAct)) (a1 : Int) (a2 : Int) (a3 : Int) (u1 : Unit) : Option (Flow Unit (List TAct)) :=
  ifB (decide ((w64 (a2 - a1)) ≤ 12)) ((m_slices_insertionSortCmpFunc_api_Act__club_compare a0 a1 a2).bind fun y5 => some (.ret y5)) (ifB (a3 == 0) (none) ((ifB (!true) (none) (some (.inl ())) : Option (Unit ⊕ (Flow Unit (List TAct)))).bind fun k8 => Sum.fin k8 fun u6 => none))
def m_slices_pdqsortCmpFunc_api_Act__club_compare (a0 : (List TAct)) (a1 : Int) (a2 : Int) (a3 : Int) : Option (List TAct) :=
  (loopM (m_slices_pdqsortCmpFunc_api_Act__club_compare_l1 a0 a1 a2 a3) ()).bind fun f4 => Flow.fin f4 fun u1 => some a0
def m_slices_SortFunc_api_Act_api_Act__club_compare (a0 : (List TAct)) : Option (List TAct) :=
  (m_bits_Len (IntKind.wrap .u64 (a0.length : Int))).bind fun y1 => (m_slices_pdqsortCmpFunc_api_Act__club_compare a0 0 (a0.length : Int) y1).bind fun y2 => some y2
def m_club_Merge_l2  (i15 : Nat) (x16 : TAct) (u19 : ((List (Tclub_own × TAct)) × (List TAct))) : Option (Flow ((List (Tclub_own × TAct)) × (List TAct)) ((List TAct) × Int)) :=
  ifB (!(hasM u19.1 (Tclub_own.mk x16.Site x16.No))) ((appM 112 u19.2 [x16]).bind fun q30 => some (.nxt (putM u19.1 (Tclub_own.mk x16.Site x16.No) x16, q30))) (ifB (!(decide ((TAct.mk (((lkM u19.1 (Tclub_own.mk x16.Site x16.No)).getD (TAct.mk ByteArray.empty 0 0 0 ByteArray.empty ByteArray.empty 0 false ByteArray.empty 0)).Site) (((lkM u19.1 (Tclub_own.mk x16.Site x16.No)).getD (TAct.mk ByteArray.empty 0 0 0 ByteArray.empty ByteArray.empty 0 false ByteArray.empty 0)).No) (((lkM u19.1 (Tclub_own.mk x16.Site x16.No)).getD (TAct.mk ByteArray.empty 0 0 0 ByteArray.empty ByteArray.empty 0 false ByteArray.empty 0)).At) (((lkM u19.1 (Tclub_own.mk x16.Site x16.No)).getD (TAct.mk ByteArray.empty 0 0 0 ByteArray.empty ByteArray.empty 0 false ByteArray.empty 0)).Kind) (((lkM u19.1 (Tclub_own.mk x16.Site x16.No)).getD (TAct.mk ByteArray.empty 0 0 0 ByteArray.empty ByteArray.empty 0 false ByteArray.empty 0)).Who) (((lkM u19.1 (Tclub_own.mk x16.Site x16.No)).getD (TAct.mk ByteArray.empty 0 0 0 ByteArray.empty ByteArray.empty 0 false ByteArray.empty 0)).Motion) (((lkM u19.1 (Tclub_own.mk x16.Site x16.No)).getD (TAct.mk ByteArray.empty 0 0 0 ByteArray.empty ByteArray.empty 0 false ByteArray.empty 0)).Cents) (((lkM u19.1 (Tclub_own.mk x16.Site x16.No)).getD (TAct.mk ByteArray.empty 0 0 0 ByteArray.empty ByteArray.empty 0 false ByteArray.empty 0)).Yes) (((lkM u19.1 (Tclub_own.mk x16.Site x16.No)).getD (TAct.mk ByteArray.empty 0 0 0 ByteArray.empty ByteArray.empty 0 false ByteArray.empty 0)).Of) (((lkM u19.1 (Tclub_own.mk x16.Site x16.No)).getD (TAct.mk ByteArray.empty 0 0 0 ByteArray.empty ByteArray.empty 0 false ByteArray.empty 0)).Other)) = x16))) (some (.ret ([], 13))) (some (.nxt (u19.1, u19.2))))
def m_club_Merge_l1  (i2 : Nat) (x3 : (List TAct)) (u5 : Unit) : Option (Flow Unit ((List TAct) × Int)) :=
  (m_club_CheckActs x3).bind fun y9 => ifB (y9 != 0) (some (.ret ([], y9))) (some (.nxt ()))
def m_club_Merge (a0 : (List TAct)) (a1 : (List TAct)) : Option ((List TAct) × Int) :=
  (rangeM m_club_Merge_l1 0 [a0, a1] ()).bind fun f8 => Flow.fin f8 fun u5 => (m_slices_Concat_api_Act_api_Act [a0, a1]).bind fun y13 => (rangeM m_club_Merge_l2 0 y13 ([], [])).bind fun f22 => Flow.fin f22 fun u19 => ifB (decide ((u19.2.length : Int) > 2000)) (some ([], 2)) ((m_slices_SortFunc_api_Act_api_Act__club_compare u19.2).bind fun y35 => some (y35, 0))
def m_club_kindWords  : Option (List ByteArray) :=
  some [ByteArray.empty, (ByteArray.mk [106, 111, 105, 110].toArray), (ByteArray.mk [113, 117, 105, 116].toArray), (ByteArray.mk [112, 97, 121].toArray), (ByteArray.mk [112, 117, 116].toArray), (ByteArray.mk [118, 111, 116, 101].toArray), (ByteArray.mk [101, 110, 100].toArray), (ByteArray.mk [117, 110, 100, 111].toArray)]
def m_club_yesWord (a0 : Bool) : Option ByteArray :=
  ifB a0 (some (ByteArray.mk [121, 101, 115].toArray)) (some (ByteArray.mk [110, 111].toArray))
def m_kit_Join (a0 : (List ByteArray)) : Option ByteArray :=
  (m_strings_Join a0 (ByteArray.mk [32].toArray)).bind fun y1 => (catM y1 (ByteArray.mk [10].toArray)).bind fun c2 => some c2
def m_club_actText (a0 : TAct) : Option ByteArray :=
  (m_strconv_Itoa a0.No).bind fun y2 => (m_strconv_Itoa a0.At).bind fun y3 => m_club_kindWords.bind fun y4 => (getI y4 a0.Kind).bind fun e6 => (m_club_usesOf a0.Kind).bind fun y8 => (ifB y8.who ((appM 16 [a0.Site, y2, y3, e6] [a0.Who]).bind fun q15 => some (.inl q15)) (some (.inl [a0.Site, y2, y3, e6])) : Option ((List ByteArray) ⊕ ByteArray)).bind fun k13 => Sum.fin k13 fun u10 => (ifB y8.motion ((appM 16 u10 [a0.Motion]).bind fun q22 => some (.inl q22)) (some (.inl u10)) : Option ((List ByteArray) ⊕ ByteArray)).bind fun k20 => Sum.fin k20 fun u17 => (ifB y8.cents ((m_strconv_Itoa a0.Cents).bind fun y28 => (appM 16 u17 [y28]).bind fun q30 => some (.inl q30)) (some (.inl u17)) : Option ((List ByteArray) ⊕ ByteArray)).bind fun k27 => Sum.fin k27 fun u24 => (ifB y8.yes ((m_club_yesWord a0.Yes).bind fun y36 => (appM 16 u24 [y36]).bind fun q38 => some (.inl q38)) (some (.inl u24)) : Option ((List ByteArray) ⊕ ByteArray)).bind fun k35 => Sum.fin k35 fun u32 => ifB y8.undo ((m_strconv_Itoa a0.Other).bind fun y40 => (appM 16 u32 [a0.Of, y40]).bind fun q42 => (m_kit_Join q42).bind fun y44 => some y44) ((m_kit_Join u32).bind fun y49 => some y49)
def m_club_Text_l1  (i3 : Nat) (x4 : TAct) (u6 : ByteArray) : Option (Flow ByteArray (ByteArray × Int)) :=
  (m_club_actText x4).bind fun y11 => (m_bWriteString u6 y11).bind fun y12 => some (.nxt y12)
def m_club_Text (a0 : (List TAct)) : Option (ByteArray × Int) :=
  (m_club_CheckActs a0).bind fun y1 => ifB (y1 != 0) (some (ByteArray.empty, y1)) ((rangeM m_club_Text_l1 0 a0 ByteArray.empty).bind fun f9 => Flow.fin f9 fun u6 => ifB (decide ((u6.size : Int) > 200000)) (some (ByteArray.empty, 2)) (some (u6, 0)))
def m_stringslite_HasSuffix (a0 : ByteArray) (a1 : ByteArray) : Option Bool :=
  ifB (decide ((a0.size : Int) ≥ (a1.size : Int))) ((strS a0 (w64 ((a0.size : Int) - (a1.size : Int))) (a0.size : Int)).bind fun c1 => some (c1.toList == a1.toList)) (some false)
def m_stringslite_CutSuffix (a0 : ByteArray) (a1 : ByteArray) : Option (ByteArray × Bool) :=
  (m_stringslite_HasSuffix a0 a1).bind fun y1 => ifB (!y1) (some (a0, false)) ((strS a0 0 (w64 ((a0.size : Int) - (a1.size : Int)))).bind fun c2 => some (c2, true))
def m_strings_CutSuffix (a0 : ByteArray) (a1 : ByteArray) : Option (ByteArray × Bool) :=
  (m_stringslite_CutSuffix a0 a1).bind fun y1 => some (y1.1, y1.2)
def m_kit_Lines (a0 : ByteArray) : Option ((List ByteArray) × Bool) :=
  ifB (a0.toList == ByteArray.empty.toList) (some ([], true)) ((m_strings_CutSuffix a0 (ByteArray.mk [10].toArray)).bind fun y2 => (m_strings_Split y2.1 (ByteArray.mk [10].toArray)).bind fun y3 => some (y3, y2.2))
def m_kit_Words_l1  (i3 : Nat) (x4 : ByteArray) (u6 : Unit) : Option (Flow Unit ((List ByteArray) × Bool)) :=
  ifB (x4.toList == ByteArray.empty.toList) (some (.ret ([], false))) (some (.nxt ()))
def m_kit_Words (a0 : ByteArray) : Option ((List ByteArray) × Bool) :=
  (m_strings_Split a0 (ByteArray.mk [32].toArray)).bind fun y1 => (rangeM m_kit_Words_l1 0 y1 ()).bind fun f9 => Flow.fin f9 fun u6 => some (y1, true)
def m_club_words_next (a0_0 : (List ByteArray)) (a0_1 : Bool) : Option (ByteArray × (List ByteArray) × Bool) :=
  ifB ((a0_0.length : Int) == 0) (some (ByteArray.empty, a0_0, true)) ((getI a0_0 0).bind fun e1 => (sliceI a0_0 1 (a0_0.length : Int)).bind fun q2 => some (e1, q2, a0_1))
def m_stringslite_HasPrefix (a0 : ByteArray) (a1 : ByteArray) : Option Bool :=
  ifB (decide ((a0.size : Int) ≥ (a1.size : Int))) ((strS a0 0 (a1.size : Int)).bind fun c1 => some (c1.toList == a1.toList)) (some false)
def m_stringslite_CutPrefix (a0 : ByteArray) (a1 : ByteArray) : Option (ByteArray × Bool) :=
  (m_stringslite_HasPrefix a0 a1).bind fun y1 => ifB (!y1) (some (a0, false)) ((strS a0 (a1.size : Int) (a0.size : Int)).bind fun c2 => some (c2, true))
def m_strings_CutPrefix (a0 : ByteArray) (a1 : ByteArray) : Option (ByteArray × Bool) :=
  (m_stringslite_CutPrefix a0 a1).bind fun y1 => some (y1.1, y1.2)
def m_kit_Number (a0 : ByteArray) (a1 : Int) : Option (Int × Bool) :=
  (m_strings_CutPrefix a0 (ByteArray.mk [45].toArray)).bind fun y1 => (ifB (y1.1.toList == ByteArray.empty.toList) (some (.inl true)) (ifB (decide ((y1.1.size : Int) > a1)) (some (.inl true)) ((m_strings_Trim y1.1 (ByteArray.mk [48, 49, 50, 51, 52, 53, 54, 55, 56, 57].toArray)).bind fun y5 => ifB (!(y5.toList == ByteArray.empty.toList)) (some (.inl true)) ((strI y1.1 0).bind fun c6 => ifB (c6 == 48) (ifB (decide ((y1.1.size : Int) > 1)) (some (.inl true)) (some (.inl y1.2))) (some (.inl false))))) : Option (Bool ⊕ (Int × Bool))).bind fun k4 => Sum.fin k4 fun u2 => ifB u2 (some (0, false)) ((m_strconv_Atoi y1.1).bind fun y7 => ifB y1.2 (some (w64 (0 - y7.1), true)) (some (y7.1, true)))
def m_club_words_number (a0_0 : (List ByteArray)) (a0_1 : Bool) : Option (Int × (List ByteArray) × Bool) :=
  (m_club_words_next a0_0 a0_1).bind fun y1 => (m_kit_Number y1.1 15).bind fun y3 => ifB y1.2.2 (some (y3.1, y1.2.1, true)) (some (y3.1, y1.2.1, !y3.2))
def m_slices_Index_string_string_l1 (a1 : ByteArray) (i1 : Nat) (x2 : ByteArray) (u4 : Unit) : Option (Flow Unit Int) :=
  ifB (a1.toList == x2.toList) (some (.ret (i1 : Int))) (some (.nxt ()))
def m_slices_Index_string_string (a0 : (List ByteArray)) (a1 : ByteArray) : Option Int :=
  (rangeM (m_slices_Index_string_string_l1 a1) 0 a0 ()).bind fun f7 => Flow.fin f7 fun u4 => some (-1)
def m_club_words_yes (a0_0 : (List ByteArray)) (a0_1 : Bool) : Option (Bool × (List ByteArray) × Bool) :=
  (m_club_words_next a0_0 a0_1).bind fun y1 => ifB y1.2.2 (some (y1.1.toList == (ByteArray.mk [121, 101, 115].toArray).toList, y1.2.1, true)) (ifB (!(y1.1.toList == (ByteArray.mk [121, 101, 115].toArray).toList)) (some (y1.1.toList == (ByteArray.mk [121, 101, 115].toArray).toList, y1.2.1, !(y1.1.toList == (ByteArray.mk [110, 111].toArray).toList))) (some (y1.1.toList == (ByteArray.mk [121, 101, 115].toArray).toList, y1.2.1, false)))
def m_club_readAct (a0 : ByteArray) : Option (TAct × Bool) :=
  (m_kit_Words a0).bind fun y2 => ifB (!y2.2) (some ((TAct.mk ByteArray.empty 0 0 0 ByteArray.empty ByteArray.empty 0 false ByteArray.empty 0), false)) ((m_club_words_next y2.1 false).bind fun y5 => (m_club_words_number y5.2.1 y5.2.2).bind fun y7 => (m_club_words_number y7.2.1 y7.2.2).bind fun y9 => m_club_kindWords.bind fun y11 => (m_club_words_next y9.2.1 y9.2.2).bind fun y13 => (m_slices_Index_string_string y11 y13.1).bind fun y15 => ifB (decide (y15 < 1)) (some ((TAct.mk ByteArray.empty 0 0 0 ByteArray.empty ByteArray.empty 0 false ByteArray.empty 0), false)) ((m_club_usesOf y15).bind fun y17 => (ifB y17.who ((m_club_words_next y13.2.1 y13.2.2).bind fun y23 => some (.inl (y23.2.2, y23.1, y23.2.1))) (some (.inl (y13.2.2, ByteArray.empty, y13.2.1))) : Option ((Bool × ByteArray × (List ByteArray)) ⊕ (TAct × Bool))).bind fun k22 => Sum.fin k22 fun u19 => (ifB y17.motion ((m_club_words_next u19.2.2 u19.1).bind fun y29 => some (.inl (y29.2.2, y29.1, y29.2.1))) (some (.inl (u19.1, ByteArray.empty, u19.2.2))) : Option ((Bool × ByteArray × (List ByteArray)) ⊕ (TAct × Bool))).bind fun k28 => Sum.fin k28 fun u25 => (ifB y17.cents ((m_club_words_number u25.2.2 u25.1).bind fun y35 => some (.inl (y35.2.2, y35.1, y35.2.1))) (some (.inl (u25.1, 0, u25.2.2))) : Option ((Bool × Int × (List ByteArray)) ⊕ (TAct × Bool))).bind fun k34 => Sum.fin k34 fun u31 => (ifB y17.yes ((m_club_words_yes u31.2.2 u31.1).bind fun y41 => some (.inl (y41.2.2, y41.1, y41.2.1))) (some (.inl (u31.1, false, u31.2.2))) : Option ((Bool × Bool × (List ByteArray)) ⊕ (TAct × Bool))).bind fun k40 => Sum.fin k40 fun u37 => (ifB y17.undo ((m_club_words_next u37.2.2 u37.1).bind fun y47 => (m_club_words_number y47.2.1 y47.2.2).bind fun y49 => some (.inl (y49.2.2, y47.1, y49.1, y49.2.1))) (some (.inl (u37.1, ByteArray.empty, 0, u37.2.2))) : Option ((Bool × ByteArray × Int × (List ByteArray)) ⊕ (TAct × Bool))).bind fun k46 => Sum.fin k46 fun u43 => (ifB (!u43.1) (some (.inl ((u43.2.2.2.length : Int) == 0, y5.1, y7.1, y9.1, y15, u19.2.1, u25.2.1, u31.2.1, u37.2.1, u43.2.1, u43.2.2.1))) (some (.inl (false, y5.1, y7.1, y9.1, y15, u19.2.1, u25.2.1, u31.2.1, u37.2.1, u43.2.1, u43.2.2.1))) : Option ((Bool × ByteArray × Int × Int × Int × ByteArray × ByteArray × Int × Bool × ByteArray × Int) ⊕ (TAct × Bool))).bind fun k53 => Sum.fin k53 fun u51 => some ((TAct.mk u51.2.1 u51.2.2.1 u51.2.2.2.1 u51.2.2.2.2.1 u51.2.2.2.2.2.1 u51.2.2.2.2.2.2.1 u51.2.2.2.2.2.2.2.1 u51.2.2.2.2.2.2.2.2.1 u51.2.2.2.2.2.2.2.2.2.1 u51.2.2.2.2.2.2.2.2.2.2), u51.1)))
def m_club_Read_l1 (y2 : ((List ByteArray) × Bool)) (i4 : Nat) (x5 : ByteArray) (u8 : (List TAct)) : Option (Flow (List TAct) ((List TAct) × Int × Int)) :=
  (m_club_readAct x5).bind fun y13 => (ifB (!y13.2) (some (.inl true)) (ifB (!y2.2) (some (.inl ((i4 : Int) == (w64 ((y2.1.length : Int) - 1))))) (some (.inl false))) : Option (Bool ⊕ (Flow (List TAct) ((List TAct) × Int × Int)))).bind fun k17 => Sum.fin k17 fun u15 => ifB u15 (some (.ret ([], (i4 : Int), 9))) ((appM 112 u8 [y13.1]).bind fun q20 => some (.nxt q20))
def m_club_Read (a0 : ByteArray) : Option ((List TAct) × Int × Int) :=
  ifB (decide ((a0.size : Int) > 200000)) (some ([], 0, 2)) ((m_kit_Lines a0).bind fun y2 => (rangeM (m_club_Read_l1 y2) 0 y2.1 []).bind fun f11 => Flow.fin f11 fun u8 => (m_club_CheckActs u8).bind fun y23 => ifB (y23 != 0) (some ([], 0, y23)) (some (u8, 0, 0)))
def m_gleekeep2_errs_l1  (i1 : Nat) (x2 : Int) (u4 : Unit) : Option (Flow Unit Int) :=
  ifB (x2 != 0) (some (.ret x2)) (some (.nxt ()))
def m_gleekeep2_errs (a0 : (List Int)) : Option Int :=
  (rangeM m_gleekeep2_errs_l1 0 a0 ()).bind fun f7 => Flow.fin f7 fun u4 => some 0
def m_slices_Equal_api_Act_api_Act_l1 (a1 : (List TAct)) (i1 : Nat) (x2 : TAct) (u4 : Unit) : Option (Flow Unit Bool) :=
  (getI a1 (i1 : Int)).bind fun e8 => ifB (!(decide (x2 = e8))) (some (.ret false)) (some (.nxt ()))
def m_slices_Equal_api_Act_api_Act (a0 : (List TAct)) (a1 : (List TAct)) : Option Bool :=
  ifB ((a0.length : Int) != (a1.length : Int)) (some false) ((rangeM (m_slices_Equal_api_Act_api_Act_l1 a1) 0 a0 ()).bind fun f7 => Flow.fin f7 fun u4 => some true)
def m_club_askedFault (a0 : (List TAct)) (a1 : Int) : Option Int :=
  (m_club_CheckActs a0).bind fun y1 => ifB (y1 != 0) (some y1) ((m_kit_IsMoment a1).bind fun y2 => ifB (!y2) (some 1) (some 0))
def m_slices_Reverse_int_int_l1  (u1 : (Int × Int × (List Int))) : Option (Flow (Int × Int × (List Int)) (List Int)) :=
  ifB (decide (u1.1 < u1.2.1)) ((getI u1.2.2 u1.2.1).bind fun e5 => (getI u1.2.2 u1.1).bind fun e6 => (getI u1.2.2 u1.1).bind fun e7 => (getI (u1.2.2.set u1.1.toNat e5) u1.2.1).bind fun e8 => some (.nxt (w64 (u1.1 + 1), w64 (u1.2.1 - 1), ((u1.2.2.set u1.1.toNat e5).set u1.2.1.toNat e6)))) (some (.brk (u1.1, u1.2.1, u1.2.2)))
def m_slices_Reverse_int_int (a0 : (List Int)) : Option (List Int) :=
  (loopM m_slices_Reverse_int_int_l1 (0, w64 ((a0.length : Int) - 1), a0)).bind fun f4 => Flow.fin f4 fun u1 => some u1.2.2
def m_club_counting_l1 (a1 : Int) (i6 : Nat) (x7 : TAct) (u13 : ((List (Tclub_own × Bool)) × (List Int))) : Option (Flow ((List (Tclub_own × Bool)) × (List Int)) (List Int)) :=
  (ifB (decide (x7.At > a1)) (some (.inl true)) (some (.inl ((lkM u13.1 (Tclub_own.mk x7.Site x7.No)).getD false))) : Option (Bool ⊕ (Flow ((List (Tclub_own × Bool)) × (List Int)) (List Int)))).bind fun k21 => Sum.fin k21 fun u19 => ifB u19 (some (.nxt (u13.1, u13.2))) ((appM 8 u13.2 [(i6 : Int)]).bind fun q23 => ifB (x7.Kind == 7) (some (.nxt (putM u13.1 (Tclub_own.mk x7.Of x7.Other) true, q23))) (some (.nxt (u13.1, q23))))
def m_club_counting (a0 : (List TAct)) (a1 : Int) : Option (List Int) :=
  (rangeB (m_club_counting_l1 a1) a0 ([], [])).bind fun f16 => Flow.fin f16 fun u13 => (m_slices_Reverse_int_int u13.2).bind fun y29 => some y29
def m_club_Counting (a0 : (List TAct)) (a1 : Int) : Option ((List Int) × Int) :=
  (m_club_askedFault a0 a1).bind fun y1 => ifB (y1 != 0) (some ([], y1)) ((m_club_counting a0 a1).bind fun y3 => some (y3, 0))
def m_piece_isUnit (a0 : Int) : Option Bool :=
  (m_slices_Contains_int_int [1, 2, 4, 8, 16] a0).bind fun y2 => some y2
def m_piece_barFault (a0 : TBar) : Option Int :=
  ((m_kit_Outside a0.Beats 1 16).bind fun y5 => ifB y5 (some (.inl true)) ((m_piece_isUnit a0.Unit).bind fun y6 => ifB (!y6) (some (.inl true)) (ifB (a0.Close != 0) ((m_kit_Outside a0.Close 2 9).bind fun y7 => ifB y7 (some (.inl true)) ((m_kit_Outside a0.Ending 0 9).bind fun y8 => some (.inl y8))) ((m_kit_Outside a0.Ending 0 9).bind fun y9 => some (.inl y9)))) : Option (Bool ⊕ Int)).bind fun k4 => Sum.fin k4 fun u2 => ifB u2 (some 1) (some 0)
def m_piece_rulesFault_l1 (a0 : (List TBar)) (i1 : Nat) (x2 : TBar) (u4 : Bool) : Option (Flow Bool Int) :=
  (m_piece_barFault x2).bind fun y9 => ifB (y9 != 0) (some (.ret y9)) ((ifB x2.Open (some (.inl u4)) (some (.inl false)) : Option (Bool ⊕ (Flow Bool Int))).bind fun k12 => Sum.fin k12 fun u10 => ifB u10 (some (.ret 16)) ((ifB (!x2.Open) (ifB (!u4) (ifB (x2.Close != 0) (some (.inl true)) (some (.inl (x2.Ending != 0)))) (some (.inl false))) (some (.inl false)) : Option (Bool ⊕ (Flow Bool Int))).bind fun k15 => Sum.fin k15 fun u13 => ifB u13 (some (.ret 16)) (ifB u4 ((getI a0 (w64 ((i1 : Int) - 1))).bind fun e16 => ifB (decide (x2.Ending < e16.Ending)) (some (.ret 16)) (ifB u4 (some (.nxt (x2.Close == 0))) (ifB x2.Open (some (.nxt (x2.Close == 0))) (some (.nxt false))))) (ifB u4 (some (.nxt (x2.Close == 0))) (ifB x2.Open (some (.nxt (x2.Close == 0))) (some (.nxt false)))))))
def m_piece_rulesFault (a0 : (List TBar)) : Option Int :=
  (rangeM (m_piece_rulesFault_l1 a0) 0 a0 false).bind fun f7 => Flow.fin f7 fun u4 => some 0
def m_piece_repeats_l3 (x22 : Tpiece_repeat) (i30 : Nat) (x31 : TBar) (u33 : Unit) : Option (Flow Unit (Flow Unit ((List Tpiece_repeat) × Bool))) :=
  (ifB (decide (x22.times > 1)) (some (.inl (decide (x31.Ending > x22.times)))) (some (.inl false)) : Option (Bool ⊕ (Flow Unit (Flow Unit ((List Tpiece_repeat) × Bool))))).bind fun k40 => Sum.fin k40 fun u38 => ifB u38 (some (.ret (.ret ([], false)))) (some (.nxt ()))
def m_piece_repeats_l2 (a0 : (List TBar)) (i21 : Nat) (x22 : Tpiece_repeat) (u24 : Unit) : Option (Flow Unit ((List Tpiece_repeat) × Bool)) :=
  (sliceI a0 x22.from_ x22.to_).bind fun q29 => (rangeM (m_piece_repeats_l3 x22) 0 q29 ()).bind fun f36 => Flow.fin f36 fun u33 => some (.nxt ())
def m_piece_repeats_l1  (i1 : Nat) (x2 : TBar) (u5 : (Int × (List Tpiece_repeat))) : Option (Flow (Int × (List Tpiece_repeat)) ((List Tpiece_repeat) × Bool)) :=
  (ifB x2.Open (some (.inl (i1 : Int))) (some (.inl u5.1)) : Option (Int ⊕ (Flow (Int × (List Tpiece_repeat)) ((List Tpiece_repeat) × Bool)))).bind fun k13 => Sum.fin k13 fun u11 => ifB (decide (u11 < 0)) ((appM 24 u5.2 [(Tpiece_repeat.mk (i1 : Int) (w64 ((i1 : Int) + 1)) 1)]).bind fun q15 => some (.nxt (u11, q15))) (ifB (decide (x2.Close > 0)) ((appM 24 u5.2 [(Tpiece_repeat.mk u11 (w64 ((i1 : Int) + 1)) x2.Close)]).bind fun q18 => some (.nxt ((-1), q18))) (some (.nxt (u11, u5.2))))
def m_piece_repeats (a0 : (List TBar)) : Option ((List Tpiece_repeat) × Bool) :=
  (rangeM m_piece_repeats_l1 0 a0 ((-1), [])).bind fun f8 => Flow.fin f8 fun u5 => (rangeM (m_piece_repeats_l2 a0) 0 u5.2 ()).bind fun f27 => Flow.fin f27 fun u24 => some (u5.2, decide (u5.1 < 0))
def m_piece_order_l3 (a0 : (List TBar)) (a2 : Int) (x2 : Tpiece_repeat) (u11 : (Int × (List Int))) (u16 : (Int × (List Int))) : Option (Flow (Int × (List Int)) (Flow (Int × (List Int)) (Flow (List Int) (List Int)))) :=
  (ifB (decide (u16.1 < x2.to_)) (some (.inl (decide ((u16.2.length : Int) ≤ a2)))) (some (.inl false)) : Option (Bool ⊕ (Flow (Int × (List Int)) (Flow (Int × (List Int)) (Flow (List Int) (List Int)))))).bind fun k23 => Sum.fin k23 fun u21 => ifB u21 (((getI a0 u16.1).bind fun e27 => ifB (e27.Ending == 0) (some (.inl true)) ((getI a0 u16.1).bind fun e28 => some (.inl (e28.Ending == u11.1))) : Option (Bool ⊕ (Flow (Int × (List Int)) (Flow (Int × (List Int)) (Flow (List Int) (List Int)))))).bind fun k26 => Sum.fin k26 fun u24 => ifB u24 ((appM 8 u16.2 [u16.1]).bind fun q30 => some (.nxt (w64 (u16.1 + 1), q30))) (some (.nxt (w64 (u16.1 + 1), u16.2)))) (some (.brk (u16.1, u16.2)))
def m_piece_order_l2 (a0 : (List TBar)) (a2 : Int) (x2 : Tpiece_repeat) (u11 : (Int × (List Int))) : Option (Flow (Int × (List Int)) (Flow (List Int) (List Int))) :=
  ifB (decide (u11.1 ≤ x2.times)) ((loopM (m_piece_order_l3 a0 a2 x2 u11) (x2.from_, u11.2)).bind fun f19 => Flow.fin f19 fun u16 => some (.nxt (w64 (u11.1 + 1), u16.2))) (some (.brk (u11.1, u11.2)))
def m_piece_order_l1 (a0 : (List TBar)) (a2 : Int) (i1 : Nat) (x2 : Tpiece_repeat) (u5 : (List Int)) : Option (Flow (List Int) (List Int)) :=
  (loopM (m_piece_order_l2 a0 a2 x2) (1, u5)).bind fun f14 => Flow.fin f14 fun u11 => some (.nxt u11.2)
def m_piece_order (a0 : (List TBar)) (a1 : (List Tpiece_repeat)) (a2 : Int) : Option (List Int) :=
  (rangeM (m_piece_order_l1 a0 a2) 0 a1 []).bind fun f8 => Flow.fin f8 fun u5 => some u5
def m_piece_CheckBars (a0 : (List TBar)) : Option Int :=
  ifB ((a0.length : Int) == 0) (some 8) (ifB (decide ((a0.length : Int) > 300)) (some 2) ((m_piece_rulesFault a0).bind fun y1 => ifB (y1 != 0) (some y1) ((m_piece_repeats a0).bind fun y2 => ifB (!y2.2) (some 16) ((m_piece_order a0 y2.1 2000).bind fun y4 => ifB (decide ((y4.length : Int) > 2000)) (some 2) (some 0)))))
def m_piece_played (a0 : (List TBar)) : Option (List Int) :=
  (m_piece_repeats a0).bind fun y1 => (m_piece_order a0 y1.1 2000).bind fun y3 => some y3
def m_piece_Order (a0 : (List TBar)) : Option ((List Int) × Int) :=
  (m_piece_CheckBars a0).bind fun y1 => ifB (y1 != 0) (some ([], y1)) ((m_piece_played a0).bind fun y3 => some (y3, 0))
def m_chord_isKind (a0 : Int) : Option Bool :=
  (m_kit_Outside a0 1 7).bind fun y1 => some (!y1)
def m_chord_above (a0 : Int) : Option (List Int) :=
  (getI [[], [0, 4, 7], [0, 3, 7], [0, 3, 6], [0, 4, 8], [0, 4, 7, 10], [0, 4, 7, 11], [0, 3, 7, 10]] a0).bind fun e12 => some e12
def m_chord_CheckChord (a0 : TChord) : Option Int :=
  (m_kit_Outside a0.Root 0 11).bind fun y2 => ifB y2 (some 1) ((m_chord_isKind a0.Kind).bind fun y3 => ifB (!y3) (some 4) ((m_chord_above a0.Kind).bind fun y4 => (m_kit_Outside a0.Turn 0 (w64 ((y4.length : Int) - 1))).bind fun y6 => ifB y6 (some 1) (some 0)))
def m_chord_rootWords  : Option (List ByteArray) :=
  some [(ByteArray.mk [99].toArray), (ByteArray.mk [99, 35].toArray), (ByteArray.mk [100].toArray), (ByteArray.mk [100, 35].toArray), (ByteArray.mk [101].toArray), (ByteArray.mk [102].toArray), (ByteArray.mk [102, 35].toArray), (ByteArray.mk [103].toArray), (ByteArray.mk [103, 35].toArray), (ByteArray.mk [97].toArray), (ByteArray.mk [97, 35].toArray), (ByteArray.mk [98].toArray)]
def m_chord_kindWords  : Option (List ByteArray) :=
  some [ByteArray.empty, (ByteArray.mk [109, 97, 106].toArray), (ByteArray.mk [109, 105, 110].toArray), (ByteArray.mk [100, 105, 109].toArray), (ByteArray.mk [97, 117, 103].toArray), (ByteArray.mk [55].toArray), (ByteArray.mk [109, 97, 106, 55].toArray), (ByteArray.mk [109, 105, 110, 55].toArray)]
def m_chord_Name (a0 : TChord) : Option (ByteArray × Int) :=
  (m_chord_CheckChord a0).bind fun y2 => ifB (y2 != 0) (some (ByteArray.empty, y2)) ((m_chord_rootWords.bind fun y6 => (getI y6 a0.Root).bind fun e8 => (catM e8 (ByteArray.mk [32].toArray)).bind fun c9 => m_chord_kindWords.bind fun y10 => (getI y10 a0.Kind).bind fun e12 => (catM c9 e12).bind fun c13 => some (.inl c13) : Option (ByteArray ⊕ (ByteArray × Int))).bind fun k5 => Sum.fin k5 fun u3 => ifB (decide (a0.Turn > 0)) ((m_strconv_Itoa a0.Turn).bind fun y18 => (catM (ByteArray.mk [47].toArray) y18).bind fun c19 => (catM u3 c19).bind fun c20 => some (c20, 0)) (some (u3, 0)))
def m_rehearse_flagNumber (a0 : Bool) : Option Int :=
  ifB a0 (some 1) (some 0)
def m_rehearse_compareCame (a0 : TCame) (a1 : TCame) : Option Int :=
  (m_cmp_Compare_int a0.At a1.At).bind fun y3 => (m_strings_Compare a0.Singer a1.Singer).bind fun y4 => (m_rehearse_flagNumber a0.Left).bind fun y5 => (m_rehearse_flagNumber a1.Left).bind fun y6 => (m_cmp_Compare_int y5 y6).bind fun y7 => (m_cmp_Or_int [y3, y4, y7]).bind fun y9 => some y9
def m_rehearse_CheckCame_l1 (a0 : (List TCame)) (i1 : Nat) (x2 : TCame) (u4 : Unit) : Option (Flow Unit Int) :=
  (m_kit_IsMoment x2.At).bind fun y9 => ifB (!y9) (some (.ret 1)) ((m_kit_IsKey x2.Singer).bind fun y10 => ifB (!y10) (some (.ret 5)) (ifB (decide ((i1 : Int) > 0)) ((getI a0 (w64 ((i1 : Int) - 1))).bind fun e11 => (m_rehearse_compareCame e11 x2).bind fun y12 => ifB (decide (y12 ≥ 0)) (some (.ret 7)) (some (.nxt ()))) (some (.nxt ()))))
def m_rehearse_CheckCame (a0 : (List TCame)) : Option Int :=
  ifB (decide ((a0.length : Int) > 5000)) (some 2) ((rangeM (m_rehearse_CheckCame_l1 a0) 0 a0 ()).bind fun f7 => Flow.fin f7 fun u4 => some 0)
def m_rehearse_joined_l1  (i1 : Nat) (x2 : TWindow) (u5 : (List TWindow)) : Option (Flow (List TWindow) (List TWindow)) :=
  ifB (decide ((w64 ((u5.length : Int) - 1)) ≥ 0)) ((getI u5 (w64 ((u5.length : Int) - 1))).bind fun e11 => ifB (decide (x2.From ≤ e11.To)) ((getI u5 (w64 ((u5.length : Int) - 1))).bind fun e12 => (getI u5 (w64 ((u5.length : Int) - 1))).bind fun e13 => some (.nxt (u5.set ((w64 ((u5.length : Int) - 1)).toNat) (TWindow.mk e13.From (max e12.To x2.To))))) ((appM 16 u5 [x2]).bind fun q15 => some (.nxt q15))) ((appM 16 u5 [x2]).bind fun q18 => some (.nxt q18))
def m_rehearse_joined (a0 : (List TWindow)) : Option (List TWindow) :=
  (rangeM m_rehearse_joined_l1 0 a0 []).bind fun f8 => Flow.fin f8 fun u5 => some u5
def m_rehearse_presences_l3  (i50 : Nat) (x51 : ByteArray) (u57 : (List (ByteArray × (List TWindow)))) : Option (Flow (List (ByteArray × (List TWindow))) (List (ByteArray × (List TWindow)))) :=
  (m_rehearse_joined ((lkM u57 x51).getD [])).bind fun y62 => some (.nxt (putM u57 x51 y62))
def m_rehearse_presences_l2  (i33 : Nat) (x34 : (ByteArray × Int)) (u38 : (List (ByteArray × (List TWindow)))) : Option (Flow (List (ByteArray × (List TWindow))) (List (ByteArray × (List TWindow)))) :=
  (appM 16 ((lkM u38 x34.1).getD []) [(TWindow.mk x34.2 345686400000)]).bind fun q44 => some (.nxt (putM u38 x34.1 q44))
def m_rehearse_presences_l1  (i3 : Nat) (x4 : TCame) (u6 : ((List (ByteArray × Int)) × (List (ByteArray × (List TWindow))))) : Option (Flow ((List (ByteArray × Int)) × (List (ByteArray × (List TWindow)))) (List (ByteArray × (List TWindow)))) :=
  (ifB (!x4.Left) (some (.inl (!(hasM u6.1 x4.Singer)))) (some (.inl false)) : Option (Bool ⊕ (Flow ((List (ByteArray × Int)) × (List (ByteArray × (List TWindow)))) (List (ByteArray × (List TWindow)))))).bind fun k13 => Sum.fin k13 fun u11 => ifB u11 (some (.nxt (putM u6.1 x4.Singer x4.At, u6.2))) ((ifB x4.Left (some (.inl (hasM u6.1 x4.Singer))) (some (.inl false)) : Option (Bool ⊕ (Flow ((List (ByteArray × Int)) × (List (ByteArray × (List TWindow)))) (List (ByteArray × (List TWindow)))))).bind fun k18 => Sum.fin k18 fun u16 => ifB u16 (ifB (decide (((lkM u6.1 x4.Singer).getD 0) < x4.At)) ((appM 16 ((lkM u6.2 x4.Singer).getD []) [(TWindow.mk ((lkM u6.1 x4.Singer).getD 0) x4.At)]).bind fun q22 => some (.nxt (delM u6.1 x4.Singer, putM u6.2 x4.Singer q22))) (some (.nxt (delM u6.1 x4.Singer, u6.2)))) (some (.nxt (u6.1, u6.2))))
def m_rehearse_presences (a0 : (List TCame)) : Option (List (ByteArray × (List TWindow))) :=
  (rangeM m_rehearse_presences_l1 0 a0 ([], [])).bind fun f9 => Flow.fin f9 fun u6 => anyOrd u6.1 fun L41 => (rangeM m_rehearse_presences_l2 0 L41 u6.2).bind fun f69 => Flow.fin f69 fun u38 => anyOrd (u38.map Prod.fst) fun L60 => (rangeM m_rehearse_presences_l3 0 L60 u38).bind fun f68 => Flow.fin f68 fun u57 => some u57
def m_kit_Has (a0 : TWindow) (a1 : Int) : Option Bool :=
  ifB (decide (a0.From ≤ a1)) (some (decide (a1 < a0.To))) (some false)
def m_rehearse_There_1 (a0 : TWindow) (a1_0 : Int) : Option Bool :=
  (m_kit_Has a0 a1_0).bind fun y2 => some y2
def m_slices_IndexFunc_api_Window_api_Window__rehearse_There_1_l1 (a1_c0_0 : Int) (i1 : Nat) (x2 : TWindow) (u4 : Unit) : Option (Flow Unit Int) :=
  (m_rehearse_There_1 x2 a1_c0_0).bind fun y8 => ifB y8 (some (.ret (i1 : Int))) (some (.nxt ()))
def m_slices_IndexFunc_api_Window_api_Window__rehearse_There_1 (a0 : (List TWindow)) (a1_c0_0 : Int) : Option Int :=
  (rangeM (m_slices_IndexFunc_api_Window_api_Window__rehearse_There_1_l1 a1_c0_0) 0 a0 ()).bind fun f7 => Flow.fin f7 fun u4 => some (-1)
def m_slices_ContainsFunc_api_Window_api_Window__rehearse_There_1 (a0 : (List TWindow)) (a1_c0_0 : Int) : Option Bool :=
  (m_slices_IndexFunc_api_Window_api_Window__rehearse_There_1 a0 a1_c0_0).bind fun y1 => some (decide (y1 ≥ 0))
noncomputable def m_slices_Sorted_string__maps_Keys_map_string_bool_string_bool_1 (a0_c0_0 : (List (ByteArray × Bool))) : Option (List ByteArray) :=
  if a0_c0_0.length ≤ 1000000000 then m_slices_Sort_string_string (a0_c0_0.map Prod.fst) else none
def m_rehearse_There_l1 (a1 : Int) (y7 : (List (ByteArray × (List TWindow)))) (i14 : Nat) (x15 : ByteArray) (u21 : (List (ByteArray × Bool))) : Option (Flow (List (ByteArray × Bool)) ((List ByteArray) × Int)) :=
  (m_slices_ContainsFunc_api_Window_api_Window__rehearse_There_1 ((lkM y7 x15).getD []) a1).bind fun y26 => ifB y26 (some (.nxt (putM u21 x15 true))) (some (.nxt u21))
def m_rehearse_There (a0 : (List TCame)) (a1 : Int) : Option ((List ByteArray) × Int) :=
  (m_rehearse_CheckCame a0).bind fun y2 => ifB (y2 != 0) (some ([], y2)) ((m_kit_IsMoment a1).bind fun y4 => ifB (!y4) (some ([], 1)) ((m_rehearse_presences a0).bind fun y7 => anyOrd (y7.map Prod.fst) fun L24 => (rangeM (m_rehearse_There_l1 a1 y7) 0 L24 []).bind fun f32 => Flow.fin f32 fun u21 => (m_slices_Sorted_string__maps_Keys_map_string_bool_string_bool_1 u21).bind fun y30 => some (y30, 0)))
def m_concert_CheckItems_1 (a0 : TItem) (a1_0 : ByteArray) (a1_1 : ByteArray) (a1_2 : Int) (a1_3 : (List ByteArray)) : Option Bool :=
  some (a0.Key.toList == a1_0.toList)
def m_slices_IndexFunc_api_Item_api_Item__concert_CheckItems_1_l1 (a1_c0_0 : ByteArray) (a1_c0_1 : ByteArray) (a1_c0_2 : Int) (a1_c0_3 : (List ByteArray)) (i1 : Nat) (x2 : TItem) (u4 : Unit) : Option (Flow Unit Int) :=
  (m_concert_CheckItems_1 x2 a1_c0_0 a1_c0_1 a1_c0_2 a1_c0_3).bind fun y8 => ifB y8 (some (.ret (i1 : Int))) (some (.nxt ()))
def m_slices_IndexFunc_api_Item_api_Item__concert_CheckItems_1 (a0 : (List TItem)) (a1_c0_0 : ByteArray) (a1_c0_1 : ByteArray) (a1_c0_2 : Int) (a1_c0_3 : (List ByteArray)) : Option Int :=
  (rangeM (m_slices_IndexFunc_api_Item_api_Item__concert_CheckItems_1_l1 a1_c0_0 a1_c0_1 a1_c0_2 a1_c0_3) 0 a0 ()).bind fun f7 => Flow.fin f7 fun u4 => some (-1)
def m_slices_ContainsFunc_api_Item_api_Item__concert_CheckItems_1 (a0 : (List TItem)) (a1_c0_0 : ByteArray) (a1_c0_1 : ByteArray) (a1_c0_2 : Int) (a1_c0_3 : (List ByteArray)) : Option Bool :=
  (m_slices_IndexFunc_api_Item_api_Item__concert_CheckItems_1 a0 a1_c0_0 a1_c0_1 a1_c0_2 a1_c0_3).bind fun y1 => some (decide (y1 ≥ 0))
def m_concert_partsFault_l1 (a0 : (List ByteArray)) (i1 : Nat) (x2 : ByteArray) (u4 : Unit) : Option (Flow Unit Int) :=
  (m_kit_IsKey x2).bind fun y8 => ifB (!y8) (some (.ret 5)) ((ifB (decide ((i1 : Int) > 0)) ((getI a0 (w64 ((i1 : Int) - 1))).bind fun e12 => some (.inl (Op.bytesLess x2.toList e12.toList || x2.toList == e12.toList))) (some (.inl false)) : Option (Bool ⊕ (Flow Unit Int))).bind fun k11 => Sum.fin k11 fun u9 => ifB u9 (some (.ret 7)) (some (.nxt ())))
def m_concert_partsFault (a0 : (List ByteArray)) : Option Int :=
  ifB ((a0.length : Int) == 0) (some 8) (ifB (decide ((a0.length : Int) > 12)) (some 2) ((rangeM (m_concert_partsFault_l1 a0) 0 a0 ()).bind fun f7 => Flow.fin f7 fun u4 => some 0))
def m_concert_CheckItems_l1 (a0 : (List TItem)) (i1 : Nat) (x2 : TItem) (u4 : Unit) : Option (Flow Unit Int) :=
  ((m_kit_IsKey x2.Key).bind fun y12 => ifB (!y12) (some (.inl true)) ((m_kit_IsKey x2.Places).bind fun y13 => some (.inl (!y13))) : Option (Bool ⊕ (Flow Unit Int))).bind fun k11 => Sum.fin k11 fun u9 => ifB u9 (some (.ret 5)) ((sliceI a0 0 (i1 : Int)).bind fun q14 => (m_slices_ContainsFunc_api_Item_api_Item__concert_CheckItems_1 q14 x2.Key x2.Places x2.Long x2.Parts).bind fun y15 => ifB y15 (some (.ret 6)) ((m_kit_Outside x2.Long 1 86400000).bind fun y16 => ifB y16 (some (.ret 1)) ((m_concert_partsFault x2.Parts).bind fun y17 => ifB (y17 != 0) (some (.ret y17)) (some (.nxt ())))))
def m_concert_CheckItems (a0 : (List TItem)) : Option Int :=
  ifB (decide ((a0.length : Int) > 60)) (some 2) ((rangeM (m_concert_CheckItems_l1 a0) 0 a0 ()).bind fun f7 => Flow.fin f7 fun u4 => some 0)
def m_concert_CheckProgram (a0 : TProgram) : Option Int :=
  (m_concert_CheckItems a0.Items).bind fun y2 => ifB (y2 != 0) (some y2) (((m_kit_Outside a0.Change 0 86400000).bind fun y6 => ifB y6 (some (.inl true)) ((m_kit_Outside a0.Clap 0 86400000).bind fun y7 => ifB y7 (some (.inl true)) ((m_kit_Outside a0.Break 0 86400000).bind fun y8 => ifB y8 (some (.inl true)) ((m_kit_Outside a0.Half (-1) (max (-1) (w64 ((a0.Items.length : Int) - 2)))).bind fun y9 => some (.inl y9)))) : Option (Bool ⊕ Int)).bind fun k5 => Sum.fin k5 fun u3 => ifB u3 (some 1) (some 0))
def m_concert_change (a0 : TProgram) (a1 : TItem) (a2 : TItem) : Option Int :=
  ifB (!(a1.Places.toList == a2.Places.toList)) (some a0.Change) (some a0.Clap)
def m_concert_behind (a0 : TProgram) (a1 : Int) : Option Int :=
  ifB (a1 == a0.Half) (some a0.Break) ((getI a0.Items a1).bind fun e2 => (getI a0.Items (w64 (a1 + 1))).bind fun e3 => (m_concert_change a0 e2 e3).bind fun y4 => some y4)
def m_concert_begins_l1 (a0 : TProgram) (i2 : Nat) (x3 : TItem) (u6 : (Int × (List Int))) : Option (Flow (Int × (List Int)) ((List Int) × Int)) :=
  (appM 8 u6.2 [u6.1]).bind fun q13 => ifB (decide ((w64 ((i2 : Int) + 1)) < (a0.Items.length : Int))) ((m_concert_behind a0 (i2 : Int)).bind fun y15 => some (.nxt (w64 ((w64 (u6.1 + x3.Long)) + y15), q13))) (some (.nxt (w64 (u6.1 + x3.Long), q13)))
def m_concert_begins (a0 : TProgram) : Option ((List Int) × Int) :=
  (rangeM (m_concert_begins_l1 a0) 0 a0.Items (0, [])).bind fun f9 => Flow.fin f9 fun u6 => some (u6.2, u6.1)
def m_concert_Long (a0 : TProgram) : Option (Int × Int) :=
  (m_concert_CheckProgram a0).bind fun y2 => ifB (y2 != 0) (some (0, y2)) ((m_concert_begins a0).bind fun y3 => some (y3.2, 0))
def m_club_books_isMember (a0_0 : Int) (a0_1 : (List (ByteArray × (List Tclub_stay)))) (a0_2 : (List (ByteArray × Int))) (a0_3 : (List (ByteArray × (Bool × (List (ByteArray × Bool)) × (List ByteArray))))) (a0_4 : (List Int)) (a1 : ByteArray) : Option Bool :=
  ifB (decide ((((lkM a0_1 a1).getD []).length : Int) > 0)) ((getI ((lkM a0_1 a1).getD []) (w64 ((((lkM a0_1 a1).getD []).length : Int) - 1))).bind fun e1 => some (decide (e1.till < 0))) (some false)
def m_club_books_isOpen (a0_0 : Int) (a0_1 : (List (ByteArray × (List Tclub_stay)))) (a0_2 : (List (ByteArray × Int))) (a0_3 : (List (ByteArray × (Bool × (List (ByteArray × Bool)) × (List ByteArray))))) (a0_4 : (List Int)) (a1 : ByteArray) : Option Bool :=
  optB (lkM a0_3 a1) (some false) (fun t4 => some (!t4.1))
def m_club_books_permits (a0_0 : Int) (a0_1 : (List (ByteArray × (List Tclub_stay)))) (a0_2 : (List (ByteArray × Int))) (a0_3 : (List (ByteArray × (Bool × (List (ByteArray × Bool)) × (List ByteArray))))) (a0_4 : (List Int)) (a1 : TAct) : Option Bool :=
  ifB (a1.Kind == 1) ((m_club_books_isMember a0_0 a0_1 a0_2 a0_3 a0_4 a1.Who).bind fun y2 => some (!y2)) (ifB (a1.Kind == 2) ((m_club_books_isMember a0_0 a0_1 a0_2 a0_3 a0_4 a1.Who).bind fun y3 => some y3) (ifB (a1.Kind == 4) (optB (lkM a0_3 a1.Motion) (some true) (fun t7 => some false)) (ifB (a1.Kind == 5) ((m_club_books_isMember a0_0 a0_1 a0_2 a0_3 a0_4 a1.Who).bind fun y15 => ifB y15 ((m_club_books_isOpen a0_0 a0_1 a0_2 a0_3 a0_4 a1.Motion).bind fun y16 => some y16) (some false)) (ifB (a1.Kind == 6) ((m_club_books_isOpen a0_0 a0_1 a0_2 a0_3 a0_4 a1.Motion).bind fun y17 => some y17) (some true)))))
noncomputable def m_slices_Sorted_string__maps_Keys_map_string_club_stay_string_club_stay_1 (a0_c0_0 : (List (ByteArray × (List Tclub_stay)))) : Option (List ByteArray) :=
  if a0_c0_0.length ≤ 1000000000 then m_slices_Sort_string_string (a0_c0_0.map Prod.fst) else none
def m_club_books_members_l1 (a0_0 : Int) (a0_1 : (List (ByteArray × (List Tclub_stay)))) (a0_2 : (List (ByteArray × Int))) (a0_3 : (List (ByteArray × (Bool × (List (ByteArray × Bool)) × (List ByteArray))))) (a0_4 : (List Int)) (i4 : Nat) (x5 : ByteArray) (u8 : (List ByteArray)) : Option (Flow (List ByteArray) (List ByteArray)) :=
  (m_club_books_isMember a0_0 a0_1 a0_2 a0_3 a0_4 x5).bind fun y13 => ifB y13 ((appM 16 u8 [x5]).bind fun q15 => some (.nxt q15)) (some (.nxt u8))
def m_club_books_members (a0_0 : Int) (a0_1 : (List (ByteArray × (List Tclub_stay)))) (a0_2 : (List (ByteArray × Int))) (a0_3 : (List (ByteArray × (Bool × (List (ByteArray × Bool)) × (List ByteArray))))) (a0_4 : (List Int)) : Option (List ByteArray) :=
  (m_slices_Sorted_string__maps_Keys_map_string_club_stay_string_club_stay_1 a0_1).bind fun y2 => (rangeM (m_club_books_members_l1 a0_0 a0_1 a0_2 a0_3 a0_4) 0 y2 []).bind fun f11 => Flow.fin f11 fun u8 => some u8
def m_club_books_act (a0_0 : Int) (a0_1 : (List (ByteArray × (List Tclub_stay)))) (a0_2 : (List (ByteArray × Int))) (a0_3 : (List (ByteArray × (Bool × (List (ByteArray × Bool)) × (List ByteArray))))) (a0_4 : (List Int)) (a1 : TAct) : Option ((List (ByteArray × (List Tclub_stay))) × (List (ByteArray × Int)) × (List (ByteArray × (Bool × (List (ByteArray × Bool)) × (List ByteArray))))) :=
  ifB (a1.Kind == 1) ((appM 24 ((lkM a0_1 a1.Who).getD []) [(Tclub_stay.mk a1.At (-1) a1.Cents)]).bind fun q4 => some (putM a0_1 a1.Who q4, a0_2, a0_3)) (ifB (a1.Kind == 2) ((getI ((lkM a0_1 a1.Who).getD []) (w64 ((((lkM a0_1 a1.Who).getD []).length : Int) - 1))).bind fun e13 => some (repM a0_1 a1.Who (((lkM a0_1 a1.Who).getD []).set ((w64 ((((lkM a0_1 a1.Who).getD []).length : Int) - 1)).toNat) (Tclub_stay.mk e13.since a1.At e13.cents)), a0_2, a0_3)) (ifB (a1.Kind == 3) (some (a0_1, putM a0_2 a1.Who (w64 (((lkM a0_2 a1.Who).getD 0) + a1.Cents)), a0_3)) (ifB (a1.Kind == 4) (some (a0_1, a0_2, putM a0_3 a1.Motion (false, ([] : (List (ByteArray × Bool))), ([] : List ByteArray)))) (ifB (a1.Kind == 5) (optB (lkM a0_3 a1.Motion) (none) (fun t30 => some (a0_1, a0_2, repM a0_3 a1.Motion (t30.1, (putM t30.2.1 a1.Who a1.Yes), t30.2.2)))) (ifB (a1.Kind == 6) (optB (lkM a0_3 a1.Motion) ((m_club_books_members a0_0 a0_1 a0_2 a0_3 a0_4).bind fun y45 => none) (fun t43 => (m_club_books_members a0_0 a0_1 a0_2 a0_3 a0_4).bind fun y53 => some (a0_1, a0_2, repM a0_3 a1.Motion (true, t43.2.1, y53)))) (some (a0_1, a0_2, a0_3)))))))
def m_club_booksAt_l1 (a0 : (List TAct)) (a1 : Int) (i7 : Nat) (x8 : Int) (u11 : ((List (ByteArray × (Bool × (List (ByteArray × Bool)) × (List ByteArray)))) × (List (ByteArray × Int)) × (List (ByteArray × (List Tclub_stay))) × (List Int))) : Option (Flow ((List (ByteArray × (Bool × (List (ByteArray × Bool)) × (List ByteArray)))) × (List (ByteArray × Int)) × (List (ByteArray × (List Tclub_stay))) × (List Int)) (Int × (List (ByteArray × (List Tclub_stay))) × (List (ByteArray × Int)) × (List (ByteArray × (Bool × (List (ByteArray × Bool)) × (List ByteArray)))) × (List Int))) :=
  (getI a0 x8).bind fun e16 => (m_club_books_permits a1 u11.2.2.1 u11.2.1 u11.1 u11.2.2.2 e16).bind fun y17 => ifB y17 ((getI a0 x8).bind fun e18 => (m_club_books_act a1 u11.2.2.1 u11.2.1 u11.1 u11.2.2.2 e18).bind fun y19 => some (.nxt (y19.2.2, y19.2.1, y19.1, u11.2.2.2))) ((appM 8 u11.2.2.2 [x8]).bind fun q29 => some (.nxt (u11.1, u11.2.1, u11.2.2.1, q29)))
def m_club_booksAt (a0 : (List TAct)) (a1 : Int) : Option (Int × (List (ByteArray × (List Tclub_stay))) × (List (ByteArray × Int)) × (List (ByteArray × (Bool × (List (ByteArray × Bool)) × (List ByteArray)))) × (List Int)) :=
  (m_club_counting a0 a1).bind fun y5 => (rangeM (m_club_booksAt_l1 a0 a1) 0 y5 ([], [], [], [])).bind fun f14 => Flow.fin f14 fun u11 => some (a1, u11.2.2.1, u11.2.1, u11.1, u11.2.2.2)
def m_club_checkedAt (a0 : (List TAct)) (a1 : Int) : Option ((Option (Int × (List (ByteArray × (List Tclub_stay))) × (List (ByteArray × Int)) × (List (ByteArray × (Bool × (List (ByteArray × Bool)) × (List ByteArray)))) × (List Int))) × Int) :=
  (m_club_askedFault a0 a1).bind fun y1 => ifB (y1 != 0) (some (none, y1)) ((m_club_booksAt a0 a1).bind fun y2 => some (some (y2.1, y2.2.1, y2.2.2.1, y2.2.2.2.1, y2.2.2.2.2), 0))
def m_club_Members (a0 : (List TAct)) (a1 : Int) : Option ((List ByteArray) × Int) :=
  (m_club_checkedAt a0 a1).bind fun y1 => optB y1.1 (ifB (y1.2 != 0) (some ([], y1.2)) (none)) (fun t2 => ifB (y1.2 != 0) (some ([], y1.2)) ((m_club_books_members t2.1 t2.2.1 t2.2.2.1 t2.2.2.2.1 t2.2.2.2.2).bind fun y33 => some (y33, 0)))
def m_gleekeep2_ready  : Option Bool :=
  (m_piece_Order [(TBar.mk 1 4 2 0 true)]).bind fun y2 => (m_chord_Name (TChord.mk 1 2 1)).bind fun y4 => (m_rehearse_There [(TCame.mk 5 (ByteArray.mk [97, 110, 110].toArray) false)] 6).bind fun y6 => (m_concert_Long (TProgram.mk [(TItem.mk (ByteArray.mk [97].toArray) (ByteArray.mk [112].toArray) 7 [(ByteArray.mk [97, 108, 116, 111].toArray)])] 0 0 0 (-1))).bind fun y10 => (m_club_Members [(TAct.mk (ByteArray.mk [97].toArray) 1 0 1 (ByteArray.mk [97, 110, 110].toArray) ByteArray.empty 0 false ByteArray.empty 0)] 0).bind fun y12 => (m_gleekeep2_errs [y2.2, y4.2, y6.2, y10.2, y12.2]).bind fun y15 => ifB (y15 == 0) (ifB ((y2.1.length : Int) == 2) (ifB (y4.1.toList == (ByteArray.mk [99, 35, 32, 109, 105, 110, 47, 49].toArray).toList) (ifB ((y6.1.length : Int) == 1) (ifB (y10.1 == 7) (some ((y12.1.length : Int) == 1)) (some false)) (some false)) (some false)) (some false)) (some false)
def m_gleekeep2_ActsAgree_l2 (y5 : (Int × Int)) (i40 : Nat) (x41 : TAct) (u43 : Int) : Option (Flow Int Bool) :=
  ifB (decide (x41.At ≤ y5.1)) (some (.nxt (w64 (u43 + 1)))) (some (.nxt u43))
def m_gleekeep2_ActsAgree_l1  (i24 : Nat) (x25 : TAct) (u28 : (List TAct)) : Option (Flow (List TAct) Bool) :=
  ifB (x25.Kind != 7) ((appM 112 u28 [x25]).bind fun q35 => some (.nxt q35)) (some (.nxt u28))
def m_gleekeep2_ActsAgree (a0 : (List Int)) : Option Bool :=
  (m_gleemake_Stream_Range a0 0 0 12).bind fun y2 => (m_gleemake_Stream_RightActs a0 y2.2 y2.1).bind fun y3 => (m_gleemake_Stream_Range a0 y3.2 0 7776000000).bind fun y5 => (m_gleekeep2_parts_api_Act a0 y5.2 y3.1).bind fun y6 => (m_club_Merge y6.1 y6.2.1).bind fun y9 => (m_club_Merge y6.2.1 y6.1).bind fun y11 => (m_club_Text y3.1).bind fun y13 => (m_club_Read y13.1).bind fun y14 => ((m_gleekeep2_errs [y9.2, y11.2, y13.2, y14.2.2]).bind fun y20 => ifB (y20 != 0) (some (.inl true)) ((m_slices_Equal_api_Act_api_Act y9.1 y3.1).bind fun y21 => ifB (!y21) (some (.inl true)) ((m_slices_Equal_api_Act_api_Act y11.1 y3.1).bind fun y22 => ifB (!y22) (some (.inl true)) ((m_slices_Equal_api_Act_api_Act y14.1 y3.1).bind fun y23 => some (.inl (!y23))))) : Option (Bool ⊕ Bool)).bind fun k18 => Sum.fin k18 fun u16 => ifB u16 (some false) ((rangeM m_gleekeep2_ActsAgree_l1 0 y3.1 []).bind fun f31 => Flow.fin f31 fun u28 => (m_club_Counting u28 y5.1).bind fun y38 => (rangeM (m_gleekeep2_ActsAgree_l2 y5) 0 u28 0).bind fun f46 => Flow.fin f46 fun u43 => ifB (y38.2 == 0) (ifB ((y38.1.length : Int) == u43) (m_gleekeep2_ready.bind fun y48 => some y48) (some false)) (some false))
end
end Go.G
