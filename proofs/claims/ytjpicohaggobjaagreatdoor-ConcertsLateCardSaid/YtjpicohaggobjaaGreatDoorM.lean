/- The models. Written by program. -/
import Derived.Test.YtjpicohaggobjaaGreatDoorXMZ
namespace Go.G
open Go Go.J
set_option linter.unusedVariables false
noncomputable section
structure Tgleemake_Stream where
  L : (List Int)
  at_ : Int
  deriving DecidableEq, Inhabited
structure TItem where
  Key : ByteArray
  Places : ByteArray
  Long : Int
  Parts : (List ByteArray)
  deriving DecidableEq, Inhabited
structure TProgram where
  Items : (List TItem)
  Change : Int
  Clap : Int
  Break : Int
  Half : Int
  deriving DecidableEq, Inhabited
structure TWindow where
  From : Int
  To : Int
  deriving DecidableEq, Inhabited
structure TTimed where
  Key : ByteArray
  Time : TWindow
  deriving DecidableEq, Inhabited
def m_gleemake_Below (a0 : Int) (a1 : Int) : Option Int :=
  ifB (decide (a1 < 1)) (some 0) ((remM a0 a1).bind fun z1 => ifB (decide (z1 < 0)) (some (w64 (z1 + a1))) (some z1))
def m_gleemake_Stream_Next (a0_0 : (List Int)) (a0_1 : Int) (a1 : Int) : Option (Int × Int) :=
  ifB ((a0_0.length : Int) == 0) ((m_gleemake_Below (w64 ((w64 (a0_1 + 1)) * 7919)) a1).bind fun y1 => some (y1, w64 (a0_1 + 1))) ((remM (w64 ((w64 (a0_1 + 1)) - 1)) (a0_0.length : Int)).bind fun z2 => (quoM (w64 ((w64 (a0_1 + 1)) - 1)) (a0_0.length : Int)).bind fun z3 => (getI a0_0 z2).bind fun e4 => (m_gleemake_Below e4 1073741824).bind fun y5 => (m_gleemake_Below (w64 (y5 + (w64 (z3 * (w64 (7919 + z2)))))) a1).bind fun y6 => some (y6, w64 (a0_1 + 1)))
def m_gleemake_Stream_Pick (a0_0 : (List Int)) (a0_1 : Int) (a1 : (List Int)) : Option (Int × Int) :=
  (m_gleemake_Stream_Next a0_0 a0_1 (a1.length : Int)).bind fun y1 => (getI a1 y1.1).bind fun e2 => some (e2, y1.2)
def m_gleemake_Stream_Flip (a0_0 : (List Int)) (a0_1 : Int) (a1 : Int) : Option (Bool × Int) :=
  (m_gleemake_Stream_Next a0_0 a0_1 a1).bind fun y1 => some (y1.1 == 0, y1.2)
def m_gleemake_Stream_Some (a0_0 : (List Int)) (a0_1 : Int) (a1 : (List ByteArray)) : Option (ByteArray × Int) :=
  (m_gleemake_Stream_Next a0_0 a0_1 (a1.length : Int)).bind fun y1 => (getI a1 y1.1).bind fun e2 => some (e2, y1.2)
def m_gleemake_Stream_RightProgram_l2 (a0_0 : (List Int)) (i27 : Nat) (x28 : ByteArray) (u31 : (Int × (List ByteArray))) : Option (Flow (Int × (List ByteArray)) (Flow (Int × (List TItem)) (TProgram × Int))) :=
  (m_gleemake_Stream_Flip a0_0 u31.1 2).bind fun y36 => ifB y36.1 ((appM 16 u31.2 [x28]).bind fun q38 => some (.nxt (y36.2, q38))) (some (.nxt (y36.2, u31.2)))
def m_gleemake_Stream_RightProgram_l1 (a0_0 : (List Int)) (i11 : Nat) (x12 : ByteArray) (u15 : (Int × (List TItem))) : Option (Flow (Int × (List TItem)) (TProgram × Int)) :=
  (m_gleemake_Stream_Flip a0_0 u15.1 6).bind fun y20 => ifB y20.1 (some (.nxt (y20.2, u15.2))) ((m_gleemake_Stream_Some a0_0 y20.2 [(ByteArray.mk [114, 111, 119, 115].toArray), (ByteArray.mk [114, 111, 119, 115].toArray), (ByteArray.mk [99, 105, 114, 99, 108, 101].toArray)]).bind fun y22 => (m_gleemake_Stream_Pick a0_0 y22.2 [50, 100, 100, 200]).bind fun y24 => (rangeM (m_gleemake_Stream_RightProgram_l2 a0_0) 0 [(ByteArray.mk [97, 108, 116, 111].toArray), (ByteArray.mk [98, 97, 115, 115].toArray), (ByteArray.mk [115, 111, 108, 105].toArray)] (y24.2, [])).bind fun f34 => Flow.fin f34 fun u31 => (ifB ((u31.2.length : Int) == 0) (some (.inl [(ByteArray.mk [97, 108, 116, 111].toArray)])) (some (.inl u31.2)) : Option ((List ByteArray) ⊕ (Flow (Int × (List TItem)) (TProgram × Int)))).bind fun k44 => Sum.fin k44 fun u41 => (appM 64 u15.2 [(TItem.mk x12 y22.1 y24.1 u41)]).bind fun q47 => some (.nxt (u31.1, q47)))
def m_gleemake_Stream_RightProgram (a0_0 : (List Int)) (a0_1 : Int) (a1 : Int) : Option (TProgram × Int) :=
  (m_gleemake_Stream_Pick a0_0 a0_1 [0, 30, 50]).bind fun y3 => (m_gleemake_Stream_Pick a0_0 y3.2 [0, 10, 30]).bind fun y5 => (m_gleemake_Stream_Pick a0_0 y5.2 [0, 100]).bind fun y7 => (sliceI [(ByteArray.mk [99].toArray), (ByteArray.mk [97].toArray), (ByteArray.mk [100].toArray), (ByteArray.mk [98].toArray), (ByteArray.mk [101].toArray)] 0 a1).bind fun q10 => (rangeM (m_gleemake_Stream_RightProgram_l1 a0_0) 0 q10 (y7.2, [])).bind fun f18 => Flow.fin f18 fun u15 => (ifB (decide ((u15.2.length : Int) > 1)) ((m_gleemake_Stream_Flip a0_0 u15.1 2).bind fun y54 => some (.inl (y54.1, y54.2))) (some (.inl (false, u15.1))) : Option ((Bool × Int) ⊕ (TProgram × Int))).bind fun k53 => Sum.fin k53 fun u51 => ifB u51.1 ((m_gleemake_Stream_Next a0_0 u51.2 (w64 ((u15.2.length : Int) - 1))).bind fun y55 => some ((TProgram.mk u15.2 y3.1 y5.1 y7.1 y55.1), y55.2)) (some ((TProgram.mk u15.2 y3.1 y5.1 y7.1 (-1)), u51.2))
def m_gleemake_Stream_Range (a0_0 : (List Int)) (a0_1 : Int) (a1 : Int) (a2 : Int) : Option (Int × Int) :=
  ifB (decide (a2 < a1)) (some (a1, a0_1)) ((m_gleemake_Stream_Next a0_0 a0_1 (w64 ((w64 (a2 - a1)) + 1))).bind fun y1 => some (w64 (a1 + y1.1), y1.2))
def m_gleemake_Stream_Odd (a0_0 : (List Int)) (a0_1 : Int) (a1 : Int) (a2 : Int) : Option (Int × Int) :=
  (m_gleemake_Stream_Flip a0_0 a0_1 12).bind fun y1 => ifB y1.1 ((m_gleemake_Stream_Pick a0_0 y1.2 [w64 (a1 - 1), w64 (a2 + 1), a1, a2, (-1099511627776), 1099511627776]).bind fun y3 => some (y3.1, y3.2)) ((m_gleemake_Stream_Range a0_0 y1.2 a1 a2).bind fun y4 => some (y4.1, y4.2))
def m_slices_Clone_string_string (a0 : (List ByteArray)) : Option (List ByteArray) :=
  (appM 16 ([] : List ByteArray) a0).bind fun q3 => some q3
def m_gleemake_Stream_AProgram (a0_0 : (List Int)) (a0_1 : Int) (a1 : Int) : Option (TProgram × Int) :=
  (m_gleemake_Stream_RightProgram a0_0 a0_1 a1).bind fun y2 => (m_gleemake_Stream_Flip a0_0 y2.2 12).bind fun y6 => ifB y6.1 ((m_gleemake_Stream_Next a0_0 y6.2 3).bind fun y7 => ifB (y7.1 == 0) ((m_gleemake_Stream_Odd a0_0 y7.2 (-1) 4).bind fun y8 => some ((TProgram.mk y2.1.Items y2.1.Change y2.1.Clap y2.1.Break y8.1), y8.2)) (ifB (y7.1 == 1) ((m_gleemake_Stream_Odd a0_0 y7.2 0 86400000).bind fun y9 => (m_gleemake_Stream_Odd a0_0 y9.2 0 86400000).bind fun y10 => (m_gleemake_Stream_Odd a0_0 y10.2 0 86400000).bind fun y11 => some ((TProgram.mk y2.1.Items y9.1 y10.1 y11.1 y2.1.Half), y11.2)) (ifB (decide ((y2.1.Items.length : Int) > 0)) ((m_gleemake_Stream_Next a0_0 y7.2 (y2.1.Items.length : Int)).bind fun y12 => (getI y2.1.Items y12.1).bind fun e13 => (m_gleemake_Stream_Some a0_0 y12.2 [e13.Key, ByteArray.empty, (ByteArray.mk [97].toArray)]).bind fun y15 => (m_gleemake_Stream_Odd a0_0 y15.2 1 86400000).bind fun y16 => (m_slices_Clone_string_string e13.Parts).bind fun y17 => (m_gleemake_Stream_Some a0_0 y16.2 [(ByteArray.mk [122, 122].toArray), ByteArray.empty, (ByteArray.mk [97, 108, 116, 111].toArray)]).bind fun y20 => (appM 16 y17 [y20.1]).bind fun q22 => some ((TProgram.mk (((y2.1.Items.set y12.1.toNat (TItem.mk y15.1 e13.Places e13.Long e13.Parts)).set y12.1.toNat (TItem.mk y15.1 e13.Places y16.1 e13.Parts)).set y12.1.toNat (TItem.mk y15.1 e13.Places y16.1 q22)) y2.1.Change y2.1.Clap y2.1.Break y2.1.Half), y20.2)) (some (y2.1, y7.2))))) (some (y2.1, y6.2))
def m_gleemake_Stream_ConcertTime (a0_0 : (List Int)) (a0_1 : Int) : Option (Int × Int) :=
  (m_gleemake_Stream_Pick a0_0 a0_1 [0, 0, 100, 1000, (-1), 345686399500, 345686400000]).bind fun y2 => some (y2.1, y2.2)
def m_slices_Clone_api_Item_api_Item (a0 : (List TItem)) : Option (List TItem) :=
  (appM 64 ([] : List TItem) a0).bind fun q3 => some q3
def m_kit_IsKey (a0 : ByteArray) : Option Bool :=
  ifB (!(a0.toList == ByteArray.empty.toList)) (ifB (decide ((a0.size : Int) ≤ 40)) ((strI a0 0).bind fun c1 => (m_strings_IndexByte (ByteArray.mk [97, 98, 99, 100, 101, 102, 103, 104, 105, 106, 107, 108, 109, 110, 111, 112, 113, 114, 115, 116, 117, 118, 119, 120, 121, 122].toArray) c1).bind fun y2 => ifB (decide (y2 ≥ 0)) ((m_strings_Trim a0 (ByteArray.mk [97, 98, 99, 100, 101, 102, 103, 104, 105, 106, 107, 108, 109, 110, 111, 112, 113, 114, 115, 116, 117, 118, 119, 120, 121, 122, 48, 49, 50, 51, 52, 53, 54, 55, 56, 57, 45, 95].toArray)).bind fun y3 => some (y3.toList == ByteArray.empty.toList)) (some false)) (some false)) (some false)
def m_concert_CheckItems_1 (a0 : TItem) (a1_0 : ByteArray) (a1_1 : ByteArray) (a1_2 : Int) (a1_3 : (List ByteArray)) : Option Bool :=
  some (a0.Key.toList == a1_0.toList)
def m_slices_IndexFunc_api_Item_api_Item__concert_CheckItems_1_l1 (a1_c0_0 : ByteArray) (a1_c0_1 : ByteArray) (a1_c0_2 : Int) (a1_c0_3 : (List ByteArray)) (i1 : Nat) (x2 : TItem) (u4 : Unit) : Option (Flow Unit Int) :=
  (m_concert_CheckItems_1 x2 a1_c0_0 a1_c0_1 a1_c0_2 a1_c0_3).bind fun y8 => ifB y8 (some (.ret (i1 : Int))) (some (.nxt ()))
def m_slices_IndexFunc_api_Item_api_Item__concert_CheckItems_1 (a0 : (List TItem)) (a1_c0_0 : ByteArray) (a1_c0_1 : ByteArray) (a1_c0_2 : Int) (a1_c0_3 : (List ByteArray)) : Option Int :=
  (rangeM (m_slices_IndexFunc_api_Item_api_Item__concert_CheckItems_1_l1 a1_c0_0 a1_c0_1 a1_c0_2 a1_c0_3) 0 a0 ()).bind fun f7 => Flow.fin f7 fun u4 => some (-1)
def m_slices_ContainsFunc_api_Item_api_Item__concert_CheckItems_1 (a0 : (List TItem)) (a1_c0_0 : ByteArray) (a1_c0_1 : ByteArray) (a1_c0_2 : Int) (a1_c0_3 : (List ByteArray)) : Option Bool :=
  (m_slices_IndexFunc_api_Item_api_Item__concert_CheckItems_1 a0 a1_c0_0 a1_c0_1 a1_c0_2 a1_c0_3).bind fun y1 => some (decide (y1 ≥ 0))
def m_kit_Outside (a0 : Int) (a1 : Int) (a2 : Int) : Option Bool :=
  ifB (decide (a0 < a1)) (some true) (some (decide (a0 > a2)))
def m_concert_partsFault_l1 (a0 : (List ByteArray)) (i1 : Nat) (x2 : ByteArray) (u4 : Unit) : Option (Flow Unit Int) :=
  (m_kit_IsKey x2).bind fun y8 => ifB (!y8) (some (.ret 5)) ((ifB (decide ((i1 : Int) > 0)) ((getI a0 (w64 ((i1 : Int) - 1))).bind fun e12 => some (.inl (Op.bytesLess x2.toList e12.toList || x2.toList == e12.toList))) (some (.inl false)) : Option (Bool ⊕ (Flow Unit Int))).bind fun k11 => Sum.fin k11 fun u9 => ifB u9 (some (.ret 7)) (some (.nxt ())))
def m_concert_partsFault (a0 : (List ByteArray)) : Option Int :=
  ifB ((a0.length : Int) == 0) (some 8) (ifB (decide ((a0.length : Int) > 12)) (some 2) ((rangeM (m_concert_partsFault_l1 a0) 0 a0 ()).bind fun f7 => Flow.fin f7 fun u4 => some 0))
def m_concert_CheckItems_l1 (a0 : (List TItem)) (i1 : Nat) (x2 : TItem) (u4 : Unit) : Option (Flow Unit Int) :=
  ((m_kit_IsKey x2.Key).bind fun y12 => ifB (!y12) (some (.inl true)) ((m_kit_IsKey x2.Places).bind fun y13 => some (.inl (!y13))) : Option (Bool ⊕ (Flow Unit Int))).bind fun k11 => Sum.fin k11 fun u9 => ifB u9 (some (.ret 5)) ((sliceI a0 0 (i1 : Int)).bind fun q14 => (m_slices_ContainsFunc_api_Item_api_Item__concert_CheckItems_1 q14 x2.Key x2.Places x2.Long x2.Parts).bind fun y15 => ifB y15 (some (.ret 6)) ((m_kit_Outside x2.Long 1 86400000).bind fun y16 => ifB y16 (some (.ret 1)) ((m_concert_partsFault x2.Parts).bind fun y17 => ifB (y17 != 0) (some (.ret y17)) (some (.nxt ())))))
def m_concert_CheckItems (a0 : (List TItem)) : Option Int :=
  ifB (decide ((a0.length : Int) > 60)) (some 2) ((rangeM (m_concert_CheckItems_l1 a0) 0 a0 ()).bind fun f7 => Flow.fin f7 fun u4 => some 0)
def m_concert_CheckProgram (a0 : TProgram) : Option Int :=
  (m_concert_CheckItems a0.Items).bind fun y2 => ifB (y2 != 0) (some y2) (((m_kit_Outside a0.Change 0 86400000).bind fun y6 => ifB y6 (some (.inl true)) ((m_kit_Outside a0.Clap 0 86400000).bind fun y7 => ifB y7 (some (.inl true)) ((m_kit_Outside a0.Break 0 86400000).bind fun y8 => ifB y8 (some (.inl true)) ((m_kit_Outside a0.Half (-1) (max (-1) (w64 ((a0.Items.length : Int) - 2)))).bind fun y9 => some (.inl y9)))) : Option (Bool ⊕ Int)).bind fun k5 => Sum.fin k5 fun u3 => ifB u3 (some 1) (some 0))
def m_concert_change (a0 : TProgram) (a1 : TItem) (a2 : TItem) : Option Int :=
  ifB (!(a1.Places.toList == a2.Places.toList)) (some a0.Change) (some a0.Clap)
def m_concert_behind (a0 : TProgram) (a1 : Int) : Option Int :=
  ifB (a1 == a0.Half) (some a0.Break) ((getI a0.Items a1).bind fun e2 => (getI a0.Items (w64 (a1 + 1))).bind fun e3 => (m_concert_change a0 e2 e3).bind fun y4 => some y4)
def m_concert_begins_l1 (a0 : TProgram) (i2 : Nat) (x3 : TItem) (u6 : (Int × (List Int))) : Option (Flow (Int × (List Int)) ((List Int) × Int)) :=
  (appM 8 u6.2 [u6.1]).bind fun q13 => ifB (decide ((w64 ((i2 : Int) + 1)) < (a0.Items.length : Int))) ((m_concert_behind a0 (i2 : Int)).bind fun y15 => some (.nxt (w64 ((w64 (u6.1 + x3.Long)) + y15), q13))) (some (.nxt (w64 (u6.1 + x3.Long), q13)))
def m_concert_begins (a0 : TProgram) : Option ((List Int) × Int) :=
  (rangeM (m_concert_begins_l1 a0) 0 a0.Items (0, [])).bind fun f9 => Flow.fin f9 fun u6 => some (u6.2, u6.1)
def m_kit_IsMoment (a0 : Int) : Option Bool :=
  (m_kit_Outside a0 0 345686399999).bind fun y1 => some (!y1)
def m_concert_fromFault (a0 : TProgram) (a1 : Int) : Option Int :=
  (m_concert_CheckProgram a0).bind fun y2 => ifB (y2 != 0) (some y2) ((m_concert_begins a0).bind fun y3 => ((m_kit_IsMoment a1).bind fun y8 => ifB (!y8) (some (.inl true)) (some (.inl (decide ((w64 (a1 + y3.2)) > 345686400000)))) : Option (Bool ⊕ Int)).bind fun k7 => Sum.fin k7 fun u5 => ifB u5 (some 1) (some 0))
def m_concert_itemAt_1 (a0 : TItem) (a1_0 : ByteArray) : Option Bool :=
  some (a0.Key.toList == a1_0.toList)
def m_slices_IndexFunc_api_Item_api_Item__concert_itemAt_1_l1 (a1_c0_0 : ByteArray) (i1 : Nat) (x2 : TItem) (u4 : Unit) : Option (Flow Unit Int) :=
  (m_concert_itemAt_1 x2 a1_c0_0).bind fun y8 => ifB y8 (some (.ret (i1 : Int))) (some (.nxt ()))
def m_slices_IndexFunc_api_Item_api_Item__concert_itemAt_1 (a0 : (List TItem)) (a1_c0_0 : ByteArray) : Option Int :=
  (rangeM (m_slices_IndexFunc_api_Item_api_Item__concert_itemAt_1_l1 a1_c0_0) 0 a0 ()).bind fun f7 => Flow.fin f7 fun u4 => some (-1)
def m_concert_itemAt (a0 : TProgram) (a1 : ByteArray) : Option Int :=
  (m_slices_IndexFunc_api_Item_api_Item__concert_itemAt_1 a0.Items a1).bind fun y3 => some y3
def m_concert_Late (a0 : TProgram) (a1 : Int) (a2 : ByteArray) (a3 : Int) : Option (Int × Int) :=
  (m_concert_fromFault a0 a1).bind fun y2 => ifB (y2 != 0) (some (0, y2)) ((m_concert_itemAt a0 a2).bind fun y3 => ifB (decide (y3 < 0)) (some (0, 8)) ((m_kit_IsMoment a3).bind fun y4 => ifB (!y4) (some (0, 1)) ((m_concert_begins a0).bind fun y5 => (getI y5.1 y3).bind fun e7 => some (w64 ((w64 (a3 - a1)) - e7), 0))))
def m_concert_Leaves_1 (a0 : ByteArray) (a1_0 : (List (ByteArray × Bool))) : Option Bool :=
  some (!((lkM a1_0 a0).getD false))
def m_slices_IndexFunc_string_string__concert_Leaves_1_l1 (a1_c0_0 : (List (ByteArray × Bool))) (i1 : Nat) (x2 : ByteArray) (u4 : Unit) : Option (Flow Unit Int) :=
  (m_concert_Leaves_1 x2 a1_c0_0).bind fun y8 => ifB y8 (some (.ret (i1 : Int))) (some (.nxt ()))
def m_slices_IndexFunc_string_string__concert_Leaves_1 (a0 : (List ByteArray)) (a1_c0_0 : (List (ByteArray × Bool))) : Option Int :=
  (rangeM (m_slices_IndexFunc_string_string__concert_Leaves_1_l1 a1_c0_0) 0 a0 ()).bind fun f7 => Flow.fin f7 fun u4 => some (-1)
def m_slices_ContainsFunc_string_string__concert_Leaves_1 (a0 : (List ByteArray)) (a1_c0_0 : (List (ByteArray × Bool))) : Option Bool :=
  (m_slices_IndexFunc_string_string__concert_Leaves_1 a0 a1_c0_0).bind fun y1 => some (decide (y1 ≥ 0))
def m_concert_Leaves_l2  (i29 : Nat) (x30 : ByteArray) (u32 : (List (ByteArray × Bool))) : Option (Flow (List (ByteArray × Bool)) (Flow ((List (ByteArray × Bool)) × (List ByteArray)) ((List ByteArray) × Int))) :=
  some (.nxt (putM u32 x30 true))
def m_concert_Leaves_l3  (i38 : Nat) (x39 : ByteArray) (u41 : (List (ByteArray × Bool))) : Option (Flow (List (ByteArray × Bool)) (Flow ((List (ByteArray × Bool)) × (List ByteArray)) ((List ByteArray) × Int))) :=
  some (.nxt (putM u41 x39 true))
def m_concert_Leaves_l1 (a1 : Int) (a2 : Int) (y6 : ((List Int) × Int)) (i10 : Nat) (x11 : TItem) (u14 : ((List (ByteArray × Bool)) × (List ByteArray))) : Option (Flow ((List (ByteArray × Bool)) × (List ByteArray)) ((List ByteArray) × Int)) :=
  (m_slices_ContainsFunc_string_string__concert_Leaves_1 x11.Parts u14.1).bind fun y20 => ifB y20 ((getI y6.1 (i10 : Int)).bind fun e21 => (ifB (decide ((w64 ((w64 (a1 + e21)) + x11.Long)) > a2)) ((appM 16 u14.2 [x11.Key]).bind fun q27 => some (.inl q27)) (some (.inl u14.2)) : Option ((List ByteArray) ⊕ (Flow ((List (ByteArray × Bool)) × (List ByteArray)) ((List ByteArray) × Int)))).bind fun k25 => Sum.fin k25 fun u22 => (rangeM m_concert_Leaves_l2 0 x11.Parts u14.1).bind fun f35 => Flow.fin f35 fun u32 => some (.nxt (u32, u22))) ((rangeM m_concert_Leaves_l3 0 x11.Parts u14.1).bind fun f44 => Flow.fin f44 fun u41 => some (.nxt (u41, u14.2)))
def m_concert_Leaves (a0 : TProgram) (a1 : Int) (a2 : Int) : Option ((List ByteArray) × Int) :=
  (m_concert_fromFault a0 a1).bind fun y2 => ifB (y2 != 0) (some ([], y2)) ((m_kit_IsMoment a2).bind fun y4 => ifB (!y4) (some ([], 1)) ((m_concert_begins a0).bind fun y6 => (rangeM (m_concert_Leaves_l1 a1 a2 y6) 0 a0.Items ([], [])).bind fun f17 => Flow.fin f17 fun u14 => some (u14.2, 0)))
def m_slices_Equal_string_string_l1 (a1 : (List ByteArray)) (i1 : Nat) (x2 : ByteArray) (u4 : Unit) : Option (Flow Unit Bool) :=
  (getI a1 (i1 : Int)).bind fun e8 => ifB (!(x2.toList == e8.toList)) (some (.ret false)) (some (.nxt ()))
def m_slices_Equal_string_string (a0 : (List ByteArray)) (a1 : (List ByteArray)) : Option Bool :=
  ifB ((a0.length : Int) != (a1.length : Int)) (some false) ((rangeM (m_slices_Equal_string_string_l1 a1) 0 a0 ()).bind fun f7 => Flow.fin f7 fun u4 => some true)
def m_concert_same (a0 : TItem) (a1 : TItem) : Option Bool :=
  ifB (a0.Places.toList == a1.Places.toList) (ifB (a0.Long == a1.Long) ((m_slices_Equal_string_string a0.Parts a1.Parts).bind fun y3 => some y3) (some false)) (some false)
def m_concert_Differ_l3 (a0 : TProgram) (i39 : Nat) (x40 : TItem) (u43 : (List ByteArray)) : Option (Flow (List ByteArray) ((List ByteArray) × (List ByteArray) × (List ByteArray) × Int)) :=
  (m_concert_itemAt a0 x40.Key).bind fun y49 => ifB (decide (y49 < 0)) ((appM 16 u43 [x40.Key]).bind fun q51 => some (.nxt q51)) (some (.nxt u43))
def m_concert_Differ_l2 (a1 : TProgram) (i16 : Nat) (x17 : TItem) (u21 : ((List ByteArray) × (List ByteArray))) : Option (Flow ((List ByteArray) × (List ByteArray)) ((List ByteArray) × (List ByteArray) × (List ByteArray) × Int)) :=
  (m_concert_itemAt a1 x17.Key).bind fun y28 => ifB (decide (y28 < 0)) ((appM 16 u21.1 [x17.Key]).bind fun q30 => some (.nxt (q30, u21.2))) ((getI a1.Items y28).bind fun e32 => (m_concert_same x17 e32).bind fun y33 => ifB (!y33) ((appM 16 u21.2 [x17.Key]).bind fun q35 => some (.nxt (u21.1, q35))) (some (.nxt (u21.1, u21.2))))
def m_concert_Differ_l1  (i4 : Nat) (x5 : TProgram) (u7 : Unit) : Option (Flow Unit ((List ByteArray) × (List ByteArray) × (List ByteArray) × Int)) :=
  (m_concert_CheckProgram x5).bind fun y12 => ifB (y12 != 0) (some (.ret ([], [], [], y12))) (some (.nxt ()))
def m_concert_Differ (a0 : TProgram) (a1 : TProgram) : Option ((List ByteArray) × (List ByteArray) × (List ByteArray) × Int) :=
  (rangeM m_concert_Differ_l1 0 [a0, a1] ()).bind fun f10 => Flow.fin f10 fun u7 => (rangeM (m_concert_Differ_l2 a1) 0 a0.Items ([], [])).bind fun f24 => Flow.fin f24 fun u21 => (rangeM (m_concert_Differ_l3 a0) 0 a1.Items []).bind fun f46 => Flow.fin f46 fun u43 => some (u21.1, u43, u21.2, 0)
def m_gleeref2_in (a0 : Int) (a1 : Int) (a2 : Int) : Option Bool :=
  ifB (decide (a1 ≤ a0)) (some (decide (a0 ≤ a2))) (some false)
def m_gleeref2_only_l1 (a0 : ByteArray) (a1 : ByteArray) (i1 : Nat) (x2 : Nat) (u4 : Unit) : Option (Flow Unit Bool) :=
  (strI a0 (i1 : Int)).bind fun c8 => (m_strings_IndexByte a1 c8).bind fun y9 => ifB (decide (y9 < 0)) (some (.ret false)) (some (.nxt ()))
def m_gleeref2_only (a0 : ByteArray) (a1 : ByteArray) : Option Bool :=
  (rangeI (a0.size : Int)).bind fun L10 => (rangeM (m_gleeref2_only_l1 a0 a1) 0 L10 ()).bind fun f7 => Flow.fin f7 fun u4 => some true
def m_gleeref2_Key (a0 : ByteArray) : Option Bool :=
  (m_gleeref2_in (a0.size : Int) 1 40).bind fun y1 => ifB y1 ((strS a0 0 1).bind fun c2 => (m_gleeref2_only c2 (ByteArray.mk [97, 98, 99, 100, 101, 102, 103, 104, 105, 106, 107, 108, 109, 110, 111, 112, 113, 114, 115, 116, 117, 118, 119, 120, 121, 122].toArray)).bind fun y3 => ifB y3 ((m_gleeref2_only a0 (ByteArray.mk [97, 98, 99, 100, 101, 102, 103, 104, 105, 106, 107, 108, 109, 110, 111, 112, 113, 114, 115, 116, 117, 118, 119, 120, 121, 122, 48, 49, 50, 51, 52, 53, 54, 55, 56, 57, 45, 95].toArray)).bind fun y4 => some y4) (some false)) (some false)
def m_gleeref2_ItemAt_1 (a0 : TItem) (a1_0 : ByteArray) : Option Bool :=
  some (a0.Key.toList == a1_0.toList)
def m_slices_IndexFunc_api_Item_api_Item__gleeref2_ItemAt_1_l1 (a1_c0_0 : ByteArray) (i1 : Nat) (x2 : TItem) (u4 : Unit) : Option (Flow Unit Int) :=
  (m_gleeref2_ItemAt_1 x2 a1_c0_0).bind fun y8 => ifB y8 (some (.ret (i1 : Int))) (some (.nxt ()))
def m_slices_IndexFunc_api_Item_api_Item__gleeref2_ItemAt_1 (a0 : (List TItem)) (a1_c0_0 : ByteArray) : Option Int :=
  (rangeM (m_slices_IndexFunc_api_Item_api_Item__gleeref2_ItemAt_1_l1 a1_c0_0) 0 a0 ()).bind fun f7 => Flow.fin f7 fun u4 => some (-1)
def m_gleeref2_ItemAt (a0 : (List TItem)) (a1 : ByteArray) : Option Int :=
  (m_slices_IndexFunc_api_Item_api_Item__gleeref2_ItemAt_1 a0 a1).bind fun y2 => some y2
def m_gleeref2_Rising_l1 (a0 : (List ByteArray)) (i1 : Nat) (x2 : ByteArray) (u4 : Unit) : Option (Flow Unit Int) :=
  (m_gleeref2_Key x2).bind fun y8 => ifB (!y8) (some (.ret 5)) ((ifB (decide ((i1 : Int) > 0)) ((getI a0 (w64 ((i1 : Int) - 1))).bind fun e12 => some (.inl (Op.bytesLess x2.toList e12.toList || x2.toList == e12.toList))) (some (.inl false)) : Option (Bool ⊕ (Flow Unit Int))).bind fun k11 => Sum.fin k11 fun u9 => ifB u9 (some (.ret 7)) (some (.nxt ())))
def m_gleeref2_Rising (a0 : (List ByteArray)) : Option Int :=
  (rangeM (m_gleeref2_Rising_l1 a0) 0 a0 ()).bind fun f7 => Flow.fin f7 fun u4 => some 0
def m_gleeref2_ItemsFault_l1 (a0 : (List TItem)) (i1 : Nat) (x2 : TItem) (u4 : Unit) : Option (Flow Unit Int) :=
  ((m_gleeref2_Key x2.Key).bind fun y12 => ifB (!y12) (some (.inl true)) ((m_gleeref2_Key x2.Places).bind fun y13 => some (.inl (!y13))) : Option (Bool ⊕ (Flow Unit Int))).bind fun k11 => Sum.fin k11 fun u9 => ifB u9 (some (.ret 5)) ((sliceI a0 0 (i1 : Int)).bind fun q14 => (m_gleeref2_ItemAt q14 x2.Key).bind fun y15 => ifB (decide (y15 ≥ 0)) (some (.ret 6)) ((m_gleeref2_in x2.Long 1 86400000).bind fun y16 => ifB (!y16) (some (.ret 1)) (ifB ((x2.Parts.length : Int) == 0) (some (.ret 8)) (ifB (decide ((x2.Parts.length : Int) > 12)) (some (.ret 2)) ((m_gleeref2_Rising x2.Parts).bind fun y17 => ifB (y17 != 0) (some (.ret y17)) (some (.nxt ())))))))
def m_gleeref2_ItemsFault (a0 : (List TItem)) : Option Int :=
  ifB (decide ((a0.length : Int) > 60)) (some 2) ((rangeM (m_gleeref2_ItemsFault_l1 a0) 0 a0 ()).bind fun f7 => Flow.fin f7 fun u4 => some 0)
def m_gleeref2_ProgramFault (a0 : TProgram) : Option Int :=
  (m_gleeref2_ItemsFault a0.Items).bind fun y2 => ifB (y2 != 0) (some y2) (((m_gleeref2_in a0.Change 0 86400000).bind fun y6 => ifB (!y6) (some (.inl true)) ((m_gleeref2_in a0.Clap 0 86400000).bind fun y7 => ifB (!y7) (some (.inl true)) ((m_gleeref2_in a0.Break 0 86400000).bind fun y8 => ifB (!y8) (some (.inl true)) ((m_gleeref2_in a0.Half (-1) (max (-1) (w64 ((a0.Items.length : Int) - 2)))).bind fun y9 => some (.inl (!y9))))) : Option (Bool ⊕ Int)).bind fun k5 => Sum.fin k5 fun u3 => ifB u3 (some 1) (some 0))
def m_gleeref2_Moment (a0 : Int) : Option Bool :=
  (m_gleeref2_in a0 0 345686399999).bind fun y1 => some y1
def m_gleeref2_between (a0 : TProgram) (a1 : Int) : Option Int :=
  ifB (a1 == a0.Half) (some a0.Break) ((getI a0.Items a1).bind fun e2 => (getI a0.Items (w64 (a1 + 1))).bind fun e3 => ifB (!(e2.Places.toList == e3.Places.toList)) (some a0.Change) (some a0.Clap))
def m_gleeref2_TimedOf_l1 (a0 : TProgram) (i2 : Nat) (x3 : TItem) (u6 : (Int × (List TTimed))) : Option (Flow (Int × (List TTimed)) (List TTimed)) :=
  (appM 32 u6.2 [(TTimed.mk x3.Key (TWindow.mk u6.1 (w64 (u6.1 + x3.Long))))]).bind fun q13 => ifB (decide ((w64 ((i2 : Int) + 1)) < (a0.Items.length : Int))) ((m_gleeref2_between a0 (i2 : Int)).bind fun y15 => some (.nxt (w64 ((w64 (u6.1 + x3.Long)) + y15), q13))) (some (.nxt (w64 (u6.1 + x3.Long), q13)))
def m_gleeref2_TimedOf (a0 : TProgram) (a1 : Int) : Option (List TTimed) :=
  (rangeM (m_gleeref2_TimedOf_l1 a0) 0 a0.Items (a1, [])).bind fun f9 => Flow.fin f9 fun u6 => some u6.2
def m_gleeref2_LongOfProgram (a0 : TProgram) : Option Int :=
  (m_gleeref2_TimedOf a0 0).bind fun y2 => ifB ((y2.length : Int) == 0) (some 0) ((getI y2 (w64 ((y2.length : Int) - 1))).bind fun e4 => some e4.Time.To)
def m_gleeref2_BeginFault (a0 : TProgram) (a1 : Int) : Option Int :=
  ((m_gleeref2_Moment a1).bind fun y5 => ifB (!y5) (some (.inl true)) ((m_gleeref2_LongOfProgram a0).bind fun y6 => some (.inl (decide ((w64 (a1 + y6)) > 345686400000)))) : Option (Bool ⊕ Int)).bind fun k4 => Sum.fin k4 fun u2 => ifB u2 (some 1) (some 0)
def m_gleeref2_MomentFault (a0 : Int) : Option Int :=
  (m_gleeref2_Moment a0).bind fun y1 => ifB (!y1) (some 1) (some 0)
def m_gleelaw2_errs_l1  (i1 : Nat) (x2 : Int) (u4 : Unit) : Option (Flow Unit Int) :=
  ifB (x2 != 0) (some (.ret x2)) (some (.nxt ()))
def m_gleelaw2_errs (a0 : (List Int)) : Option Int :=
  (rangeM m_gleelaw2_errs_l1 0 a0 ()).bind fun f7 => Flow.fin f7 fun u4 => some 0
def m_gleelaw2_when (a0 : Bool) (a1 : Int) : Option Int :=
  ifB a0 (some a1) (some 0)
def m_gleeref2_LateIn (a0 : TProgram) (a1 : Int) (a2 : ByteArray) (a3 : Int) : Option Int :=
  (m_gleeref2_TimedOf a0 a1).bind fun y2 => (m_gleeref2_ItemAt a0.Items a2).bind fun y4 => (getI y2 y4).bind fun e5 => some (w64 (a3 - e5.Time.From))
def m_gleeref2_partsIn_l1  (i1 : Nat) (x2 : TItem) (u5 : (List ByteArray)) : Option (Flow (List ByteArray) (List ByteArray)) :=
  (appM 16 u5 x2.Parts).bind fun q11 => some (.nxt q11)
def m_gleeref2_partsIn (a0 : (List TItem)) : Option (List ByteArray) :=
  (rangeM m_gleeref2_partsIn_l1 0 a0 []).bind fun f8 => Flow.fin f8 fun u5 => (m_slices_Sort_string_string u5).bind fun y14 => (m_slices_Compact_string_string y14).bind fun y15 => some y15
def m_slices_Index_string_string_l1 (a1 : ByteArray) (i1 : Nat) (x2 : ByteArray) (u4 : Unit) : Option (Flow Unit Int) :=
  ifB (a1.toList == x2.toList) (some (.ret (i1 : Int))) (some (.nxt ()))
def m_slices_Index_string_string (a0 : (List ByteArray)) (a1 : ByteArray) : Option Int :=
  (rangeM (m_slices_Index_string_string_l1 a1) 0 a0 ()).bind fun f7 => Flow.fin f7 fun u4 => some (-1)
def m_slices_Contains_string_string (a0 : (List ByteArray)) (a1 : ByteArray) : Option Bool :=
  (m_slices_Index_string_string a0 a1).bind fun y1 => some (decide (y1 ≥ 0))
def m_gleeref2_LeavesAt_1 (a0 : ByteArray) (a1_0 : (List ByteArray)) : Option Bool :=
  (m_slices_Contains_string_string a1_0 a0).bind fun y1 => some (!y1)
def m_slices_IndexFunc_string_string__gleeref2_LeavesAt_1_l1 (a1_c0_0 : (List ByteArray)) (i1 : Nat) (x2 : ByteArray) (u4 : Unit) : Option (Flow Unit Int) :=
  (m_gleeref2_LeavesAt_1 x2 a1_c0_0).bind fun y8 => ifB y8 (some (.ret (i1 : Int))) (some (.nxt ()))
def m_slices_IndexFunc_string_string__gleeref2_LeavesAt_1 (a0 : (List ByteArray)) (a1_c0_0 : (List ByteArray)) : Option Int :=
  (rangeM (m_slices_IndexFunc_string_string__gleeref2_LeavesAt_1_l1 a1_c0_0) 0 a0 ()).bind fun f7 => Flow.fin f7 fun u4 => some (-1)
def m_slices_ContainsFunc_string_string__gleeref2_LeavesAt_1 (a0 : (List ByteArray)) (a1_c0_0 : (List ByteArray)) : Option Bool :=
  (m_slices_IndexFunc_string_string__gleeref2_LeavesAt_1 a0 a1_c0_0).bind fun y1 => some (decide (y1 ≥ 0))
def m_gleeref2_LeavesAt_l1 (a0 : TProgram) (a2 : Int) (i4 : Nat) (x5 : TTimed) (u8 : (List ByteArray)) : Option (Flow (List ByteArray) (List ByteArray)) :=
  (sliceI a0.Items 0 (i4 : Int)).bind fun q14 => (m_gleeref2_partsIn q14).bind fun y15 => (ifB (decide (x5.Time.To > a2)) ((getI a0.Items (i4 : Int)).bind fun e21 => (m_slices_ContainsFunc_string_string__gleeref2_LeavesAt_1 e21.Parts y15).bind fun y22 => some (.inl y22)) (some (.inl false)) : Option (Bool ⊕ (Flow (List ByteArray) (List ByteArray)))).bind fun k20 => Sum.fin k20 fun u18 => ifB u18 ((appM 16 u8 [x5.Key]).bind fun q24 => some (.nxt q24)) (some (.nxt u8))
def m_gleeref2_LeavesAt (a0 : TProgram) (a1 : Int) (a2 : Int) : Option (List ByteArray) :=
  (m_gleeref2_TimedOf a0 a1).bind fun y2 => (rangeM (m_gleeref2_LeavesAt_l1 a0 a2) 0 y2 []).bind fun f11 => Flow.fin f11 fun u8 => some u8
def m_gleeref2_SameItem (a0 : TItem) (a1 : TItem) : Option Bool :=
  ifB (a0.Key.toList == a1.Key.toList) (ifB (a0.Places.toList == a1.Places.toList) (ifB (a0.Long == a1.Long) ((m_slices_Equal_string_string a0.Parts a1.Parts).bind fun y3 => some y3) (some false)) (some false)) (some false)
def m_gleeref2_DifferingOf_l2 (a0 : TProgram) (i26 : Nat) (x27 : TItem) (u30 : (List ByteArray)) : Option (Flow (List ByteArray) ((List ByteArray) × (List ByteArray) × (List ByteArray))) :=
  (m_gleeref2_ItemAt a0.Items x27.Key).bind fun y36 => ifB (decide (y36 < 0)) ((appM 16 u30 [x27.Key]).bind fun q38 => some (.nxt q38)) (some (.nxt u30))
def m_gleeref2_DifferingOf_l1 (a1 : TProgram) (i3 : Nat) (x4 : TItem) (u8 : ((List ByteArray) × (List ByteArray))) : Option (Flow ((List ByteArray) × (List ByteArray)) ((List ByteArray) × (List ByteArray) × (List ByteArray))) :=
  (m_gleeref2_ItemAt a1.Items x4.Key).bind fun y15 => ifB (decide (y15 < 0)) ((appM 16 u8.1 [x4.Key]).bind fun q17 => some (.nxt (q17, u8.2))) ((getI a1.Items y15).bind fun e19 => (m_gleeref2_SameItem x4 e19).bind fun y20 => ifB (!y20) ((appM 16 u8.2 [x4.Key]).bind fun q22 => some (.nxt (u8.1, q22))) (some (.nxt (u8.1, u8.2))))
def m_gleeref2_DifferingOf (a0 : TProgram) (a1 : TProgram) : Option ((List ByteArray) × (List ByteArray) × (List ByteArray)) :=
  (rangeM (m_gleeref2_DifferingOf_l1 a1) 0 a0.Items ([], [])).bind fun f11 => Flow.fin f11 fun u8 => (rangeM (m_gleeref2_DifferingOf_l2 a0) 0 a1.Items []).bind fun f33 => Flow.fin f33 fun u30 => some (u8.1, u30, u8.2)
def m_concert_Long (a0 : TProgram) : Option (Int × Int) :=
  (m_concert_CheckProgram a0).bind fun y2 => ifB (y2 != 0) (some (0, y2)) ((m_concert_begins a0).bind fun y3 => some (y3.2, 0))
def m_gleelaw2_sung  : Option Bool :=
  (m_concert_Long (TProgram.mk [(TItem.mk (ByteArray.mk [97].toArray) (ByteArray.mk [112].toArray) 7 [(ByteArray.mk [97, 108, 116, 111].toArray)])] 0 0 0 (-1))).bind fun y3 => ifB (y3.2 == 0) (some (y3.1 == 7)) (some false)
def m_gleelaw2_ConcertsLate (a0 : (List Int)) : Option Bool :=
  (m_gleemake_Stream_AProgram a0 0 5).bind fun y2 => (m_gleemake_Stream_AProgram a0 y2.2 4).bind fun y5 => (m_gleemake_Stream_ConcertTime a0 y5.2).bind fun y8 => (m_gleemake_Stream_Some a0 y8.2 [(ByteArray.mk [97].toArray), (ByteArray.mk [98].toArray), (ByteArray.mk [99].toArray), (ByteArray.mk [122, 122].toArray)]).bind fun y10 => (m_gleemake_Stream_Pick a0 y10.2 [0, 100, 250, 500, 1500, (-1)]).bind fun y12 => (m_gleemake_Stream_Flip a0 y12.2 2).bind fun y15 => (ifB y15.1 ((m_slices_Clone_api_Item_api_Item y2.1.Items).bind fun y21 => ifB (decide ((y21.length : Int) > 0)) ((m_gleemake_Stream_Next a0 y15.2 (y21.length : Int)).bind fun y24 => (getI y21 y24.1).bind fun e25 => (getI y21 y24.1).bind fun e26 => some (.inl (y2.1.Change, y2.1.Clap, y2.1.Break, y2.1.Half, y2.1.Items, (y21.set y24.1.toNat (TItem.mk e26.Key e26.Places (w64 (e25.Long + 1)) e26.Parts))))) (some (.inl (y2.1.Change, y2.1.Clap, y2.1.Break, y2.1.Half, y2.1.Items, y21)))) (some (.inl (y5.1.Change, y5.1.Clap, y5.1.Break, y5.1.Half, y2.1.Items, y5.1.Items))) : Option ((Int × Int × Int × Int × (List TItem) × (List TItem)) ⊕ Bool)).bind fun k20 => Sum.fin k20 fun u16 => (m_concert_Late (TProgram.mk u16.2.2.2.2.1 y2.1.Change y2.1.Clap y2.1.Break y2.1.Half) y8.1 y10.1 y12.1).bind fun y30 => (m_concert_Leaves (TProgram.mk u16.2.2.2.2.1 y2.1.Change y2.1.Clap y2.1.Break y2.1.Half) y8.1 y12.1).bind fun y31 => (m_concert_Differ (TProgram.mk u16.2.2.2.2.1 y2.1.Change y2.1.Clap y2.1.Break y2.1.Half) (TProgram.mk u16.2.2.2.2.2 u16.1 u16.2.1 u16.2.2.1 u16.2.2.2.1)).bind fun y33 => (m_gleeref2_ProgramFault (TProgram.mk u16.2.2.2.2.1 y2.1.Change y2.1.Clap y2.1.Break y2.1.Half)).bind fun y37 => (ifB (y37 == 0) ((m_gleeref2_BeginFault (TProgram.mk u16.2.2.2.2.1 y2.1.Change y2.1.Clap y2.1.Break y2.1.Half) y8.1).bind fun y41 => some (.inl y41)) (some (.inl y37)) : Option (Int ⊕ Bool)).bind fun k40 => Sum.fin k40 fun u38 => (m_gleeref2_MomentFault y12.1).bind fun y42 => (m_gleelaw2_errs [u38, y42]).bind fun y44 => (m_gleeref2_ItemAt u16.2.2.2.2.1 y10.1).bind fun y45 => (m_gleelaw2_when (decide (y45 < 0)) 8).bind fun y46 => (m_gleeref2_MomentFault y12.1).bind fun y47 => (m_gleelaw2_errs [u38, y46, y47]).bind fun y49 => (m_gleeref2_ProgramFault (TProgram.mk u16.2.2.2.2.2 u16.1 u16.2.1 u16.2.2.1 u16.2.2.2.1)).bind fun y50 => (m_gleelaw2_errs [y37, y50]).bind fun y52 => (ifB (y49 == 0) ((m_gleeref2_LateIn (TProgram.mk u16.2.2.2.2.1 y2.1.Change y2.1.Clap y2.1.Break y2.1.Half) y8.1 y10.1 y12.1).bind fun y56 => some (.inl y56)) (some (.inl 0)) : Option (Int ⊕ Bool)).bind fun k55 => Sum.fin k55 fun u53 => (ifB (y44 == 0) ((m_gleeref2_LeavesAt (TProgram.mk u16.2.2.2.2.1 y2.1.Change y2.1.Clap y2.1.Break y2.1.Half) y8.1 y12.1).bind fun y61 => some (.inl y61)) (some (.inl [])) : Option ((List ByteArray) ⊕ Bool)).bind fun k60 => Sum.fin k60 fun u57 => (ifB (y52 == 0) ((m_gleeref2_DifferingOf (TProgram.mk u16.2.2.2.2.1 y2.1.Change y2.1.Clap y2.1.Break y2.1.Half) (TProgram.mk u16.2.2.2.2.2 u16.1 u16.2.1 u16.2.2.1 u16.2.2.2.1)).bind fun y70 => some (.inl (y70.1, y70.2.1, y70.2.2))) (some (.inl ([], [], []))) : Option (((List ByteArray) × (List ByteArray) × (List ByteArray)) ⊕ Bool)).bind fun k69 => Sum.fin k69 fun u64 => ifB (y30.2 == y49) (ifB (y30.1 == u53) (ifB (y31.2 == y44) ((m_slices_Equal_string_string y31.1 u57).bind fun y77 => ifB y77 (ifB (y33.2.2.2 == y52) ((m_slices_Equal_string_string y33.1 u64.1).bind fun y78 => ifB y78 ((m_slices_Equal_string_string y33.2.1 u64.2.1).bind fun y79 => ifB y79 ((m_slices_Equal_string_string y33.2.2.1 u64.2.2).bind fun y80 => ifB y80 (m_gleelaw2_sung.bind fun y81 => some y81) (some false)) (some false)) (some false)) (some false)) (some false)) (some false)) (some false)) (some false)
end
end Go.G
