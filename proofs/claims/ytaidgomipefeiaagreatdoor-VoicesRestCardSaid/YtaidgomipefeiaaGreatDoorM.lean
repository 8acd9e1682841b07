/- The models. Written by program. -/
import Derived.Test.YtaidgomipefeiaaGreatDoorXMV
namespace Go.G
open Go Go.J
set_option linter.unusedVariables false
noncomputable section
structure Tgleemake_Stream where
  L : (List Int)
  at_ : Int
  deriving DecidableEq, Inhabited
structure TItem where
  Key : ByteArray
  Places : ByteArray
  Long : Int
  Parts : (List ByteArray)
  deriving DecidableEq, Inhabited
structure TProgram where
  Items : (List TItem)
  Change : Int
  Clap : Int
  Break : Int
  Half : Int
  deriving DecidableEq, Inhabited
structure TPair where
  Name : ByteArray
  Value : ByteArray
  deriving DecidableEq, Inhabited
structure Tconcert_sung where
  part : ByteArray
  long_ : Int
  deriving DecidableEq, Inhabited
structure TWindow where
  From : Int
  To : Int
  deriving DecidableEq, Inhabited
structure TTimed where
  Key : ByteArray
  Time : TWindow
  deriving DecidableEq, Inhabited
def m_gleemake_Below (a0 : Int) (a1 : Int) : Option Int :=
  ifB (decide (a1 < 1)) (some 0) ((remM a0 a1).bind fun z1 => ifB (decide (z1 < 0)) (some (w64 (z1 + a1))) (some z1))
def m_gleemake_Stream_Next (a0_0 : (List Int)) (a0_1 : Int) (a1 : Int) : Option (Int × Int) :=
  ifB ((a0_0.length : Int) == 0) ((m_gleemake_Below (w64 ((w64 (a0_1 + 1)) * 7919)) a1).bind fun y1 => some (y1, w64 (a0_1 + 1))) ((remM (w64 ((w64 (a0_1 + 1)) - 1)) (a0_0.length : Int)).bind fun z2 => (quoM (w64 ((w64 (a0_1 + 1)) - 1)) (a0_0.length : Int)).bind fun z3 => (getI a0_0 z2).bind fun e4 => (m_gleemake_Below e4 1073741824).bind fun y5 => (m_gleemake_Below (w64 (y5 + (w64 (z3 * (w64 (7919 + z2)))))) a1).bind fun y6 => some (y6, w64 (a0_1 + 1)))
def m_gleemake_Stream_Pick (a0_0 : (List Int)) (a0_1 : Int) (a1 : (List Int)) : Option (Int × Int) :=
  (m_gleemake_Stream_Next a0_0 a0_1 (a1.length : Int)).bind fun y1 => (getI a1 y1.1).bind fun e2 => some (e2, y1.2)
def m_gleemake_Stream_Flip (a0_0 : (List Int)) (a0_1 : Int) (a1 : Int) : Option (Bool × Int) :=
  (m_gleemake_Stream_Next a0_0 a0_1 a1).bind fun y1 => some (y1.1 == 0, y1.2)
def m_gleemake_Stream_Some (a0_0 : (List Int)) (a0_1 : Int) (a1 : (List ByteArray)) : Option (ByteArray × Int) :=
  (m_gleemake_Stream_Next a0_0 a0_1 (a1.length : Int)).bind fun y1 => (getI a1 y1.1).bind fun e2 => some (e2, y1.2)
def m_gleemake_Stream_RightProgram_l2 (a0_0 : (List Int)) (i27 : Nat) (x28 : ByteArray) (u31 : (Int × (List ByteArray))) : Option (Flow (Int × (List ByteArray)) (Flow (Int × (List TItem)) (TProgram × Int))) :=
  (m_gleemake_Stream_Flip a0_0 u31.1 2).bind fun y36 => ifB y36.1 ((appM 16 u31.2 [x28]).bind fun q38 => some (.nxt (y36.2, q38))) (some (.nxt (y36.2, u31.2)))
def m_gleemake_Stream_RightProgram_l1 (a0_0 : (List Int)) (i11 : Nat) (x12 : ByteArray) (u15 : (Int × (List TItem))) : Option (Flow (Int × (List TItem)) (TProgram × Int)) :=
  (m_gleemake_Stream_Flip a0_0 u15.1 6).bind fun y20 => ifB y20.1 (some (.nxt (y20.2, u15.2))) ((m_gleemake_Stream_Some a0_0 y20.2 [(ByteArray.mk [114, 111, 119, 115].toArray), (ByteArray.mk [114, 111, 119, 115].toArray), (ByteArray.mk [99, 105, 114, 99, 108, 101].toArray)]).bind fun y22 => (m_gleemake_Stream_Pick a0_0 y22.2 [50, 100, 100, 200]).bind fun y24 => (rangeM (m_gleemake_Stream_RightProgram_l2 a0_0) 0 [(ByteArray.mk [97, 108, 116, 111].toArray), (ByteArray.mk [98, 97, 115, 115].toArray), (ByteArray.mk [115, 111, 108, 105].toArray)] (y24.2, [])).bind fun f34 => Flow.fin f34 fun u31 => (ifB ((u31.2.length : Int) == 0) (some (.inl [(ByteArray.mk [97, 108, 116, 111].toArray)])) (some (.inl u31.2)) : Option ((List ByteArray) ⊕ (Flow (Int × (List TItem)) (TProgram × Int)))).bind fun k44 => Sum.fin k44 fun u41 => (appM 64 u15.2 [(TItem.mk x12 y22.1 y24.1 u41)]).bind fun q47 => some (.nxt (u31.1, q47)))
def m_gleemake_Stream_RightProgram (a0_0 : (List Int)) (a0_1 : Int) (a1 : Int) : Option (TProgram × Int) :=
  (m_gleemake_Stream_Pick a0_0 a0_1 [0, 30, 50]).bind fun y3 => (m_gleemake_Stream_Pick a0_0 y3.2 [0, 10, 30]).bind fun y5 => (m_gleemake_Stream_Pick a0_0 y5.2 [0, 100]).bind fun y7 => (sliceI [(ByteArray.mk [99].toArray), (ByteArray.mk [97].toArray), (ByteArray.mk [100].toArray), (ByteArray.mk [98].toArray), (ByteArray.mk [101].toArray)] 0 a1).bind fun q10 => (rangeM (m_gleemake_Stream_RightProgram_l1 a0_0) 0 q10 (y7.2, [])).bind fun f18 => Flow.fin f18 fun u15 => (ifB (decide ((u15.2.length : Int) > 1)) ((m_gleemake_Stream_Flip a0_0 u15.1 2).bind fun y54 => some (.inl (y54.1, y54.2))) (some (.inl (false, u15.1))) : Option ((Bool × Int) ⊕ (TProgram × Int))).bind fun k53 => Sum.fin k53 fun u51 => ifB u51.1 ((m_gleemake_Stream_Next a0_0 u51.2 (w64 ((u15.2.length : Int) - 1))).bind fun y55 => some ((TProgram.mk u15.2 y3.1 y5.1 y7.1 y55.1), y55.2)) (some ((TProgram.mk u15.2 y3.1 y5.1 y7.1 (-1)), u51.2))
def m_gleemake_Stream_Range (a0_0 : (List Int)) (a0_1 : Int) (a1 : Int) (a2 : Int) : Option (Int × Int) :=
  ifB (decide (a2 < a1)) (some (a1, a0_1)) ((m_gleemake_Stream_Next a0_0 a0_1 (w64 ((w64 (a2 - a1)) + 1))).bind fun y1 => some (w64 (a1 + y1.1), y1.2))
def m_gleemake_Stream_Odd (a0_0 : (List Int)) (a0_1 : Int) (a1 : Int) (a2 : Int) : Option (Int × Int) :=
  (m_gleemake_Stream_Flip a0_0 a0_1 12).bind fun y1 => ifB y1.1 ((m_gleemake_Stream_Pick a0_0 y1.2 [w64 (a1 - 1), w64 (a2 + 1), a1, a2, (-1099511627776), 1099511627776]).bind fun y3 => some (y3.1, y3.2)) ((m_gleemake_Stream_Range a0_0 y1.2 a1 a2).bind fun y4 => some (y4.1, y4.2))
def m_slices_Clone_string_string (a0 : (List ByteArray)) : Option (List ByteArray) :=
  (appM 16 ([] : List ByteArray) a0).bind fun q3 => some q3
def m_gleemake_Stream_AProgram (a0_0 : (List Int)) (a0_1 : Int) (a1 : Int) : Option (TProgram × Int) :=
  (m_gleemake_Stream_RightProgram a0_0 a0_1 a1).bind fun y2 => (m_gleemake_Stream_Flip a0_0 y2.2 12).bind fun y6 => ifB y6.1 ((m_gleemake_Stream_Next a0_0 y6.2 3).bind fun y7 => ifB (y7.1 == 0) ((m_gleemake_Stream_Odd a0_0 y7.2 (-1) 4).bind fun y8 => some ((TProgram.mk y2.1.Items y2.1.Change y2.1.Clap y2.1.Break y8.1), y8.2)) (ifB (y7.1 == 1) ((m_gleemake_Stream_Odd a0_0 y7.2 0 86400000).bind fun y9 => (m_gleemake_Stream_Odd a0_0 y9.2 0 86400000).bind fun y10 => (m_gleemake_Stream_Odd a0_0 y10.2 0 86400000).bind fun y11 => some ((TProgram.mk y2.1.Items y9.1 y10.1 y11.1 y2.1.Half), y11.2)) (ifB (decide ((y2.1.Items.length : Int) > 0)) ((m_gleemake_Stream_Next a0_0 y7.2 (y2.1.Items.length : Int)).bind fun y12 => (getI y2.1.Items y12.1).bind fun e13 => (m_gleemake_Stream_Some a0_0 y12.2 [e13.Key, ByteArray.empty, (ByteArray.mk [97].toArray)]).bind fun y15 => (m_gleemake_Stream_Odd a0_0 y15.2 1 86400000).bind fun y16 => (m_slices_Clone_string_string e13.Parts).bind fun y17 => (m_gleemake_Stream_Some a0_0 y16.2 [(ByteArray.mk [122, 122].toArray), ByteArray.empty, (ByteArray.mk [97, 108, 116, 111].toArray)]).bind fun y20 => (appM 16 y17 [y20.1]).bind fun q22 => some ((TProgram.mk (((y2.1.Items.set y12.1.toNat (TItem.mk y15.1 e13.Places e13.Long e13.Parts)).set y12.1.toNat (TItem.mk y15.1 e13.Places y16.1 e13.Parts)).set y12.1.toNat (TItem.mk y15.1 e13.Places y16.1 q22)) y2.1.Change y2.1.Clap y2.1.Break y2.1.Half), y20.2)) (some (y2.1, y7.2))))) (some (y2.1, y6.2))
def m_kit_IsKey (a0 : ByteArray) : Option Bool :=
  ifB (!(a0.toList == ByteArray.empty.toList)) (ifB (decide ((a0.size : Int) ≤ 40)) ((strI a0 0).bind fun c1 => (m_strings_IndexByte (ByteArray.mk [97, 98, 99, 100, 101, 102, 103, 104, 105, 106, 107, 108, 109, 110, 111, 112, 113, 114, 115, 116, 117, 118, 119, 120, 121, 122].toArray) c1).bind fun y2 => ifB (decide (y2 ≥ 0)) ((m_strings_Trim a0 (ByteArray.mk [97, 98, 99, 100, 101, 102, 103, 104, 105, 106, 107, 108, 109, 110, 111, 112, 113, 114, 115, 116, 117, 118, 119, 120, 121, 122, 48, 49, 50, 51, 52, 53, 54, 55, 56, 57, 45, 95].toArray)).bind fun y3 => some (y3.toList == ByteArray.empty.toList)) (some false)) (some false)) (some false)
def m_concert_CheckItems_1 (a0 : TItem) (a1_0 : ByteArray) (a1_1 : ByteArray) (a1_2 : Int) (a1_3 : (List ByteArray)) : Option Bool :=
  some (a0.Key.toList == a1_0.toList)
def m_slices_IndexFunc_api_Item_api_Item__concert_CheckItems_1_l1 (a1_c0_0 : ByteArray) (a1_c0_1 : ByteArray) (a1_c0_2 : Int) (a1_c0_3 : (List ByteArray)) (i1 : Nat) (x2 : TItem) (u4 : Unit) : Option (Flow Unit Int) :=
  (m_concert_CheckItems_1 x2 a1_c0_0 a1_c0_1 a1_c0_2 a1_c0_3).bind fun y8 => ifB y8 (some (.ret (i1 : Int))) (some (.nxt ()))
def m_slices_IndexFunc_api_Item_api_Item__concert_CheckItems_1 (a0 : (List TItem)) (a1_c0_0 : ByteArray) (a1_c0_1 : ByteArray) (a1_c0_2 : Int) (a1_c0_3 : (List ByteArray)) : Option Int :=
  (rangeM (m_slices_IndexFunc_api_Item_api_Item__concert_CheckItems_1_l1 a1_c0_0 a1_c0_1 a1_c0_2 a1_c0_3) 0 a0 ()).bind fun f7 => Flow.fin f7 fun u4 => some (-1)
def m_slices_ContainsFunc_api_Item_api_Item__concert_CheckItems_1 (a0 : (List TItem)) (a1_c0_0 : ByteArray) (a1_c0_1 : ByteArray) (a1_c0_2 : Int) (a1_c0_3 : (List ByteArray)) : Option Bool :=
  (m_slices_IndexFunc_api_Item_api_Item__concert_CheckItems_1 a0 a1_c0_0 a1_c0_1 a1_c0_2 a1_c0_3).bind fun y1 => some (decide (y1 ≥ 0))
def m_kit_Outside (a0 : Int) (a1 : Int) (a2 : Int) : Option Bool :=
  ifB (decide (a0 < a1)) (some true) (some (decide (a0 > a2)))
def m_concert_partsFault_l1 (a0 : (List ByteArray)) (i1 : Nat) (x2 : ByteArray) (u4 : Unit) : Option (Flow Unit Int) :=
  (m_kit_IsKey x2).bind fun y8 => ifB (!y8) (some (.ret 5)) ((ifB (decide ((i1 : Int) > 0)) ((getI a0 (w64 ((i1 : Int) - 1))).bind fun e12 => some (.inl (Op.bytesLess x2.toList e12.toList || x2.toList == e12.toList))) (some (.inl false)) : Option (Bool ⊕ (Flow Unit Int))).bind fun k11 => Sum.fin k11 fun u9 => ifB u9 (some (.ret 7)) (some (.nxt ())))
def m_concert_partsFault (a0 : (List ByteArray)) : Option Int :=
  ifB ((a0.length : Int) == 0) (some 8) (ifB (decide ((a0.length : Int) > 12)) (some 2) ((rangeM (m_concert_partsFault_l1 a0) 0 a0 ()).bind fun f7 => Flow.fin f7 fun u4 => some 0))
def m_concert_CheckItems_l1 (a0 : (List TItem)) (i1 : Nat) (x2 : TItem) (u4 : Unit) : Option (Flow Unit Int) :=
  ((m_kit_IsKey x2.Key).bind fun y12 => ifB (!y12) (some (.inl true)) ((m_kit_IsKey x2.Places).bind fun y13 => some (.inl (!y13))) : Option (Bool ⊕ (Flow Unit Int))).bind fun k11 => Sum.fin k11 fun u9 => ifB u9 (some (.ret 5)) ((sliceI a0 0 (i1 : Int)).bind fun q14 => (m_slices_ContainsFunc_api_Item_api_Item__concert_CheckItems_1 q14 x2.Key x2.Places x2.Long x2.Parts).bind fun y15 => ifB y15 (some (.ret 6)) ((m_kit_Outside x2.Long 1 86400000).bind fun y16 => ifB y16 (some (.ret 1)) ((m_concert_partsFault x2.Parts).bind fun y17 => ifB (y17 != 0) (some (.ret y17)) (some (.nxt ())))))
def m_concert_CheckItems (a0 : (List TItem)) : Option Int :=
  ifB (decide ((a0.length : Int) > 60)) (some 2) ((rangeM (m_concert_CheckItems_l1 a0) 0 a0 ()).bind fun f7 => Flow.fin f7 fun u4 => some 0)
def m_concert_CheckProgram (a0 : TProgram) : Option Int :=
  (m_concert_CheckItems a0.Items).bind fun y2 => ifB (y2 != 0) (some y2) (((m_kit_Outside a0.Change 0 86400000).bind fun y6 => ifB y6 (some (.inl true)) ((m_kit_Outside a0.Clap 0 86400000).bind fun y7 => ifB y7 (some (.inl true)) ((m_kit_Outside a0.Break 0 86400000).bind fun y8 => ifB y8 (some (.inl true)) ((m_kit_Outside a0.Half (-1) (max (-1) (w64 ((a0.Items.length : Int) - 2)))).bind fun y9 => some (.inl y9)))) : Option (Bool ⊕ Int)).bind fun k5 => Sum.fin k5 fun u3 => ifB u3 (some 1) (some 0))
def m_bits_Len (a0 : Int) : Option Int :=
  (m_bits_Len64 a0).bind fun y1 => some y1
def m_cmp_isNaN_int (a0 : Int) : Option Bool :=
  some (a0 != a0)
def m_cmp_Compare_int (a0 : Int) (a1 : Int) : Option Int :=
  (m_cmp_isNaN_int a0).bind fun y1 => (m_cmp_isNaN_int a1).bind fun y2 => ifB y1 (ifB y2 (some 0) (some (-1))) (ifB y2 (some 1) (ifB (decide (a0 < a1)) (some (-1)) (ifB (decide (a0 > a1)) (some 1) (some 0))))
def m_cmp_Or_int_l1  (i1 : Nat) (x2 : Int) (u4 : Unit) : Option (Flow Unit Int) :=
  ifB (x2 != 0) (some (.ret x2)) (some (.nxt ()))
def m_cmp_Or_int (a0 : (List Int)) : Option Int :=
  (rangeM m_cmp_Or_int_l1 0 a0 ()).bind fun f7 => Flow.fin f7 fun u4 => some 0
def m_concert_Sung_1 (a0 : Tconcert_sung) (a1 : Tconcert_sung) : Option Int :=
  (m_cmp_Compare_int a1.long_ a0.long_).bind fun y3 => (m_strings_Compare a0.part a1.part).bind fun y4 => (m_cmp_Or_int [y3, y4]).bind fun y6 => some y6
def m_slices_insertionSortCmpFunc_concert_sung__concert_Sung_1_l2 (a1 : Int) (u5 : (Int × (List Tconcert_sung))) : Option (Flow (Int × (List Tconcert_sung)) (Flow (Int × (List Tconcert_sung)) (List Tconcert_sung))) :=
  ifB (decide (u5.1 > a1)) ((getI u5.2 u5.1).bind fun e9 => (getI u5.2 (w64 (u5.1 - 1))).bind fun e10 => (m_concert_Sung_1 e9 e10).bind fun y11 => ifB (decide (y11 < 0)) ((getI u5.2 (w64 (u5.1 - 1))).bind fun e12 => (getI u5.2 u5.1).bind fun e13 => (getI u5.2 u5.1).bind fun e14 => (getI (u5.2.set u5.1.toNat e12) (w64 (u5.1 - 1))).bind fun e15 => some (.nxt (w64 (u5.1 - 1), ((u5.2.set u5.1.toNat e12).set ((w64 (u5.1 - 1)).toNat) e13)))) (some (.brk (u5.1, u5.2)))) (some (.brk (u5.1, u5.2)))
def m_slices_insertionSortCmpFunc_concert_sung__concert_Sung_1_l1 (a1 : Int) (a2 : Int) (u1 : (Int × (List Tconcert_sung))) : Option (Flow (Int × (List Tconcert_sung)) (List Tconcert_sung)) :=
  ifB (decide (u1.1 < a2)) ((loopM (m_slices_insertionSortCmpFunc_concert_sung__concert_Sung_1_l2 a1) (u1.1, u1.2)).bind fun f8 => Flow.fin f8 fun u5 => some (.nxt (w64 (u1.1 + 1), u5.2))) (some (.brk (u1.1, u1.2)))
def m_slices_insertionSortCmpFunc_concert_sung__concert_Sung_1 (a0 : (List Tconcert_sung)) (a1 : Int) (a2 : Int) : Option (List Tconcert_sung) :=
  (loopM (m_slices_insertionSortCmpFunc_concert_sung__concert_Sung_1_l1 a1 a2) (w64 (a1 + 1), a0)).bind fun f4 => Flow.fin f4 fun u1 => some u1.2
def m_slices_pdqsortCmpFunc_concert_sung__concert_Sung_1_l1 (a0 : (List Tconcert_sung)) (a1 : Int) (a2 : Int) (a3 : Int) (u1 : Unit) : Option (Flow Unit (List Tconcert_sung)) :=
  ifB (decide ((w64 (a2 - a1)) ≤ 12)) ((m_slices_insertionSortCmpFunc_concert_sung__concert_Sung_1 a0 a1 a2).bind fun y5 => some (.ret y5)) (ifB (a3 == 0) (none) ((ifB (!true) (none) (some (.inl ())) : Option (Unit ⊕ (Flow Unit (List Tconcert_sung)))).bind fun k8 => Sum.fin k8 fun u6 => none))
def m_slices_pdqsortCmpFunc_concert_sung__concert_Sung_1 (a0 : (List Tconcert_sung)) (a1 : Int) (a2 : Int) (a3 : Int) : Option (List Tconcert_sung) :=
  (loopM (m_slices_pdqsortCmpFunc_concert_sung__concert_Sung_1_l1 a0 a1 a2 a3) ()).bind fun f4 => Flow.fin f4 fun u1 => some a0
def m_slices_SortFunc_concert_sung_concert_sung__concert_Sung_1 (a0 : (List Tconcert_sung)) : Option (List Tconcert_sung) :=
  (m_bits_Len (IntKind.wrap .u64 (a0.length : Int))).bind fun y1 => (m_slices_pdqsortCmpFunc_concert_sung__concert_Sung_1 a0 0 (a0.length : Int) y1).bind fun y2 => some y2
def m_concert_Sung_l2 (x6 : TItem) (i13 : Nat) (x14 : ByteArray) (u16 : (List (ByteArray × Int))) : Option (Flow (List (ByteArray × Int)) (Flow (List (ByteArray × Int)) ((List TPair) × Int))) :=
  some (.nxt (putM u16 x14 (w64 (((lkM u16 x14).getD 0) + x6.Long))))
def m_concert_Sung_l4  (i40 : Nat) (x41 : Tconcert_sung) (u44 : (List TPair)) : Option (Flow (List TPair) ((List TPair) × Int)) :=
  (m_strconv_Itoa x41.long_).bind fun y50 => (appM 32 u44 [(TPair.mk x41.part y50)]).bind fun q52 => some (.nxt q52)
def m_concert_Sung_l3  (i24 : Nat) (x25 : (ByteArray × Int)) (u30 : (List Tconcert_sung)) : Option (Flow (List Tconcert_sung) ((List TPair) × Int)) :=
  (appM 24 u30 [(Tconcert_sung.mk x25.1 x25.2)]).bind fun q36 => some (.nxt q36)
def m_concert_Sung_l1  (i5 : Nat) (x6 : TItem) (u8 : (List (ByteArray × Int))) : Option (Flow (List (ByteArray × Int)) ((List TPair) × Int)) :=
  (rangeM (m_concert_Sung_l2 x6) 0 x6.Parts u8).bind fun f19 => Flow.fin f19 fun u16 => some (.nxt u16)
def m_concert_Sung (a0 : TProgram) : Option ((List TPair) × Int) :=
  (m_concert_CheckProgram a0).bind fun y2 => ifB (y2 != 0) (some ([], y2)) ((rangeM m_concert_Sung_l1 0 a0.Items []).bind fun f11 => Flow.fin f11 fun u8 => anyOrd u8 fun L33 => (rangeM m_concert_Sung_l3 0 L33 []).bind fun f58 => Flow.fin f58 fun u30 => (m_slices_SortFunc_concert_sung_concert_sung__concert_Sung_1 u30).bind fun y39 => (rangeM m_concert_Sung_l4 0 y39 []).bind fun f47 => Flow.fin f47 fun u44 => some (u44, 0))
def m_slices_Index_string_string_l1 (a1 : ByteArray) (i1 : Nat) (x2 : ByteArray) (u4 : Unit) : Option (Flow Unit Int) :=
  ifB (a1.toList == x2.toList) (some (.ret (i1 : Int))) (some (.nxt ()))
def m_slices_Index_string_string (a0 : (List ByteArray)) (a1 : ByteArray) : Option Int :=
  (rangeM (m_slices_Index_string_string_l1 a1) 0 a0 ()).bind fun f7 => Flow.fin f7 fun u4 => some (-1)
def m_slices_Contains_string_string (a0 : (List ByteArray)) (a1 : ByteArray) : Option Bool :=
  (m_slices_Index_string_string a0 a1).bind fun y1 => some (decide (y1 ≥ 0))
def m_concert_Longest_l1 (a0 : TProgram) (a1 : ByteArray) (i4 : Nat) (x5 : TItem) (u7 : (Int × Int)) : Option (Flow (Int × Int) (Int × Int)) :=
  (m_slices_Contains_string_string x5.Parts a1).bind fun y12 => ifB (!y12) (some (.nxt (u7.1, 0))) ((ifB (decide ((i4 : Int) > 0)) (some (.inl ((w64 ((i4 : Int) - 1)) == a0.Half))) (some (.inl false)) : Option (Bool ⊕ (Flow (Int × Int) (Int × Int)))).bind fun k15 => Sum.fin k15 fun u13 => (ifB u13 (some (.inl 0)) (some (.inl u7.2)) : Option (Int ⊕ (Flow (Int × Int) (Int × Int)))).bind fun k18 => Sum.fin k18 fun u16 => some (.nxt (max u7.1 (w64 (u16 + x5.Long)), w64 (u16 + x5.Long))))
def m_concert_Longest (a0 : TProgram) (a1 : ByteArray) : Option (Int × Int) :=
  (m_concert_CheckProgram a0).bind fun y2 => ifB (y2 != 0) (some (0, y2)) ((m_kit_IsKey a1).bind fun y3 => ifB (!y3) (some (0, 5)) ((rangeM (m_concert_Longest_l1 a0 a1) 0 a0.Items (0, 0)).bind fun f10 => Flow.fin f10 fun u7 => some (u7.1, 0)))
noncomputable def m_slices_Sorted_string__maps_Keys_map_string_bool_string_bool_1 (a0_c0_0 : (List (ByteArray × Bool))) : Option (List ByteArray) :=
  if a0_c0_0.length ≤ 1000000000 then m_slices_Sort_string_string (a0_c0_0.map Prod.fst) else none
def m_concert_partsOf_l2  (i11 : Nat) (x12 : ByteArray) (u14 : (List (ByteArray × Bool))) : Option (Flow (List (ByteArray × Bool)) (Flow (List (ByteArray × Bool)) (List ByteArray))) :=
  some (.nxt (putM u14 x12 true))
def m_concert_partsOf_l1  (i3 : Nat) (x4 : TItem) (u6 : (List (ByteArray × Bool))) : Option (Flow (List (ByteArray × Bool)) (List ByteArray)) :=
  (rangeM m_concert_partsOf_l2 0 x4.Parts u6).bind fun f17 => Flow.fin f17 fun u14 => some (.nxt u14)
def m_concert_partsOf (a0 : TProgram) : Option (List ByteArray) :=
  (rangeM m_concert_partsOf_l1 0 a0.Items []).bind fun f9 => Flow.fin f9 fun u6 => (m_slices_Sorted_string__maps_Keys_map_string_bool_string_bool_1 u6).bind fun y21 => some y21
def m_concert_change (a0 : TProgram) (a1 : TItem) (a2 : TItem) : Option Int :=
  ifB (!(a1.Places.toList == a2.Places.toList)) (some a0.Change) (some a0.Clap)
def m_concert_behind (a0 : TProgram) (a1 : Int) : Option Int :=
  ifB (a1 == a0.Half) (some a0.Break) ((getI a0.Items a1).bind fun e2 => (getI a0.Items (w64 (a1 + 1))).bind fun e3 => (m_concert_change a0 e2 e3).bind fun y4 => some y4)
def m_concert_begins_l1 (a0 : TProgram) (i2 : Nat) (x3 : TItem) (u6 : (Int × (List Int))) : Option (Flow (Int × (List Int)) ((List Int) × Int)) :=
  (appM 8 u6.2 [u6.1]).bind fun q13 => ifB (decide ((w64 ((i2 : Int) + 1)) < (a0.Items.length : Int))) ((m_concert_behind a0 (i2 : Int)).bind fun y15 => some (.nxt (w64 ((w64 (u6.1 + x3.Long)) + y15), q13))) (some (.nxt (w64 (u6.1 + x3.Long), q13)))
def m_concert_begins (a0 : TProgram) : Option ((List Int) × Int) :=
  (rangeM (m_concert_begins_l1 a0) 0 a0.Items (0, [])).bind fun f9 => Flow.fin f9 fun u6 => some (u6.2, u6.1)
def m_concert_tiredIn_l1 (a1 : ByteArray) (a2 : Int) (a3 : Int) (y2 : ((List Int) × Int)) (i4 : Nat) (x5 : TItem) (u7 : (Int × Int)) : Option (Flow (Int × Int) Int) :=
  (m_slices_Contains_string_string x5.Parts a1).bind fun y12 => ifB (!y12) (some (.nxt (u7.1, u7.2))) ((getI y2.1 (i4 : Int)).bind fun e13 => (ifB (decide ((w64 (e13 - u7.2)) ≥ a3)) (some (.inl 0)) (some (.inl u7.1)) : Option (Int ⊕ (Flow (Int × Int) Int))).bind fun k16 => Sum.fin k16 fun u14 => (getI y2.1 (i4 : Int)).bind fun e17 => ifB (decide ((w64 (u14 + x5.Long)) > a2)) (some (.ret (i4 : Int))) (some (.nxt (w64 (u14 + x5.Long), w64 (e17 + x5.Long)))))
def m_concert_tiredIn (a0 : TProgram) (a1 : ByteArray) (a2 : Int) (a3 : Int) : Option Int :=
  (m_concert_begins a0).bind fun y2 => (rangeM (m_concert_tiredIn_l1 a1 a2 a3 y2) 0 a0.Items (0, 0)).bind fun f10 => Flow.fin f10 fun u7 => some (-1)
def m_concert_Tired_l1 (a0 : TProgram) (a1 : Int) (a2 : Int) (i12 : Nat) (x13 : ByteArray) (u16 : (List TPair)) : Option (Flow (List TPair) ((List TPair) × Int)) :=
  (m_concert_tiredIn a0 x13 a1 a2).bind fun y21 => ifB (decide (y21 ≥ 0)) ((getI a0.Items y21).bind fun e22 => (appM 32 u16 [(TPair.mk x13 e22.Key)]).bind fun q24 => some (.nxt q24)) (some (.nxt u16))
def m_concert_Tired (a0 : TProgram) (a1 : Int) (a2 : Int) : Option ((List TPair) × Int) :=
  (m_concert_CheckProgram a0).bind fun y2 => ifB (y2 != 0) (some ([], y2)) (((m_kit_Outside a1 1 86400000).bind fun y7 => ifB y7 (some (.inl true)) ((m_kit_Outside a2 1 86400000).bind fun y8 => some (.inl y8)) : Option (Bool ⊕ ((List TPair) × Int))).bind fun k6 => Sum.fin k6 fun u4 => ifB u4 (some ([], 1)) ((m_concert_partsOf a0).bind fun y10 => (rangeM (m_concert_Tired_l1 a0 a1 a2) 0 y10 []).bind fun f19 => Flow.fin f19 fun u16 => some (u16, 0)))
def m_gleeref2_in (a0 : Int) (a1 : Int) (a2 : Int) : Option Bool :=
  ifB (decide (a1 ≤ a0)) (some (decide (a0 ≤ a2))) (some false)
def m_gleeref2_only_l1 (a0 : ByteArray) (a1 : ByteArray) (i1 : Nat) (x2 : Nat) (u4 : Unit) : Option (Flow Unit Bool) :=
  (strI a0 (i1 : Int)).bind fun c8 => (m_strings_IndexByte a1 c8).bind fun y9 => ifB (decide (y9 < 0)) (some (.ret false)) (some (.nxt ()))
def m_gleeref2_only (a0 : ByteArray) (a1 : ByteArray) : Option Bool :=
  (rangeI (a0.size : Int)).bind fun L10 => (rangeM (m_gleeref2_only_l1 a0 a1) 0 L10 ()).bind fun f7 => Flow.fin f7 fun u4 => some true
def m_gleeref2_Key (a0 : ByteArray) : Option Bool :=
  (m_gleeref2_in (a0.size : Int) 1 40).bind fun y1 => ifB y1 ((strS a0 0 1).bind fun c2 => (m_gleeref2_only c2 (ByteArray.mk [97, 98, 99, 100, 101, 102, 103, 104, 105, 106, 107, 108, 109, 110, 111, 112, 113, 114, 115, 116, 117, 118, 119, 120, 121, 122].toArray)).bind fun y3 => ifB y3 ((m_gleeref2_only a0 (ByteArray.mk [97, 98, 99, 100, 101, 102, 103, 104, 105, 106, 107, 108, 109, 110, 111, 112, 113, 114, 115, 116, 117, 118, 119, 120, 121, 122, 48, 49, 50, 51, 52, 53, 54, 55, 56, 57, 45, 95].toArray)).bind fun y4 => some y4) (some false)) (some false)
def m_gleeref2_ItemAt_1 (a0 : TItem) (a1_0 : ByteArray) : Option Bool :=
  some (a0.Key.toList == a1_0.toList)
def m_slices_IndexFunc_api_Item_api_Item__gleeref2_ItemAt_1_l1 (a1_c0_0 : ByteArray) (i1 : Nat) (x2 : TItem) (u4 : Unit) : Option (Flow Unit Int) :=
  (m_gleeref2_ItemAt_1 x2 a1_c0_0).bind fun y8 => ifB y8 (some (.ret (i1 : Int))) (some (.nxt ()))
def m_slices_IndexFunc_api_Item_api_Item__gleeref2_ItemAt_1 (a0 : (List TItem)) (a1_c0_0 : ByteArray) : Option Int :=
  (rangeM (m_slices_IndexFunc_api_Item_api_Item__gleeref2_ItemAt_1_l1 a1_c0_0) 0 a0 ()).bind fun f7 => Flow.fin f7 fun u4 => some (-1)
def m_gleeref2_ItemAt (a0 : (List TItem)) (a1 : ByteArray) : Option Int :=
  (m_slices_IndexFunc_api_Item_api_Item__gleeref2_ItemAt_1 a0 a1).bind fun y2 => some y2
def m_gleeref2_Rising_l1 (a0 : (List ByteArray)) (i1 : Nat) (x2 : ByteArray) (u4 : Unit) : Option (Flow Unit Int) :=
  (m_gleeref2_Key x2).bind fun y8 => ifB (!y8) (some (.ret 5)) ((ifB (decide ((i1 : Int) > 0)) ((getI a0 (w64 ((i1 : Int) - 1))).bind fun e12 => some (.inl (Op.bytesLess x2.toList e12.toList || x2.toList == e12.toList))) (some (.inl false)) : Option (Bool ⊕ (Flow Unit Int))).bind fun k11 => Sum.fin k11 fun u9 => ifB u9 (some (.ret 7)) (some (.nxt ())))
def m_gleeref2_Rising (a0 : (List ByteArray)) : Option Int :=
  (rangeM (m_gleeref2_Rising_l1 a0) 0 a0 ()).bind fun f7 => Flow.fin f7 fun u4 => some 0
def m_gleeref2_ItemsFault_l1 (a0 : (List TItem)) (i1 : Nat) (x2 : TItem) (u4 : Unit) : Option (Flow Unit Int) :=
  ((m_gleeref2_Key x2.Key).bind fun y12 => ifB (!y12) (some (.inl true)) ((m_gleeref2_Key x2.Places).bind fun y13 => some (.inl (!y13))) : Option (Bool ⊕ (Flow Unit Int))).bind fun k11 => Sum.fin k11 fun u9 => ifB u9 (some (.ret 5)) ((sliceI a0 0 (i1 : Int)).bind fun q14 => (m_gleeref2_ItemAt q14 x2.Key).bind fun y15 => ifB (decide (y15 ≥ 0)) (some (.ret 6)) ((m_gleeref2_in x2.Long 1 86400000).bind fun y16 => ifB (!y16) (some (.ret 1)) (ifB ((x2.Parts.length : Int) == 0) (some (.ret 8)) (ifB (decide ((x2.Parts.length : Int) > 12)) (some (.ret 2)) ((m_gleeref2_Rising x2.Parts).bind fun y17 => ifB (y17 != 0) (some (.ret y17)) (some (.nxt ())))))))
def m_gleeref2_ItemsFault (a0 : (List TItem)) : Option Int :=
  ifB (decide ((a0.length : Int) > 60)) (some 2) ((rangeM (m_gleeref2_ItemsFault_l1 a0) 0 a0 ()).bind fun f7 => Flow.fin f7 fun u4 => some 0)
def m_gleeref2_ProgramFault (a0 : TProgram) : Option Int :=
  (m_gleeref2_ItemsFault a0.Items).bind fun y2 => ifB (y2 != 0) (some y2) (((m_gleeref2_in a0.Change 0 86400000).bind fun y6 => ifB (!y6) (some (.inl true)) ((m_gleeref2_in a0.Clap 0 86400000).bind fun y7 => ifB (!y7) (some (.inl true)) ((m_gleeref2_in a0.Break 0 86400000).bind fun y8 => ifB (!y8) (some (.inl true)) ((m_gleeref2_in a0.Half (-1) (max (-1) (w64 ((a0.Items.length : Int) - 2)))).bind fun y9 => some (.inl (!y9))))) : Option (Bool ⊕ Int)).bind fun k5 => Sum.fin k5 fun u3 => ifB u3 (some 1) (some 0))
def m_gleelaw2_when (a0 : Bool) (a1 : Int) : Option Int :=
  ifB a0 (some a1) (some 0)
def m_gleelaw2_nameFault (a0 : ByteArray) : Option Int :=
  (m_gleeref2_Key a0).bind fun y1 => (m_gleelaw2_when (!y1) 5).bind fun y2 => some y2
def m_gleelaw2_errs_l1  (i1 : Nat) (x2 : Int) (u4 : Unit) : Option (Flow Unit Int) :=
  ifB (x2 != 0) (some (.ret x2)) (some (.nxt ()))
def m_gleelaw2_errs (a0 : (List Int)) : Option Int :=
  (rangeM m_gleelaw2_errs_l1 0 a0 ()).bind fun f7 => Flow.fin f7 fun u4 => some 0
def m_gleeref2_partsIn_l1  (i1 : Nat) (x2 : TItem) (u5 : (List ByteArray)) : Option (Flow (List ByteArray) (List ByteArray)) :=
  (appM 16 u5 x2.Parts).bind fun q11 => some (.nxt q11)
def m_gleeref2_partsIn (a0 : (List TItem)) : Option (List ByteArray) :=
  (rangeM m_gleeref2_partsIn_l1 0 a0 []).bind fun f8 => Flow.fin f8 fun u5 => (m_slices_Sort_string_string u5).bind fun y14 => (m_slices_Compact_string_string y14).bind fun y15 => some y15
def m_gleeref2_sign (a0 : Int) : Option Int :=
  ifB (decide (a0 < 0)) (some (-1)) (ifB (decide (a0 > 0)) (some 1) (some 0))
def m_gleeref2_SungBy_1 (a0 : TPair) (a1 : TPair) (a2_0 : (List (ByteArray × Int))) : Option Int :=
  (m_gleeref2_sign (w64 (((lkM a2_0 a1.Name).getD 0) - ((lkM a2_0 a0.Name).getD 0)))).bind fun y3 => some y3
def m_slices_insertionSortCmpFunc_api_Pair__gleeref2_SungBy_1_l2 (a1 : Int) (a3_c0_0 : (List (ByteArray × Int))) (u5 : (Int × (List TPair))) : Option (Flow (Int × (List TPair)) (Flow (Int × (List TPair)) (List TPair))) :=
  ifB (decide (u5.1 > a1)) ((getI u5.2 u5.1).bind fun e9 => (getI u5.2 (w64 (u5.1 - 1))).bind fun e10 => (m_gleeref2_SungBy_1 e9 e10 a3_c0_0).bind fun y11 => ifB (decide (y11 < 0)) ((getI u5.2 (w64 (u5.1 - 1))).bind fun e12 => (getI u5.2 u5.1).bind fun e13 => (getI u5.2 u5.1).bind fun e14 => (getI (u5.2.set u5.1.toNat e12) (w64 (u5.1 - 1))).bind fun e15 => some (.nxt (w64 (u5.1 - 1), ((u5.2.set u5.1.toNat e12).set ((w64 (u5.1 - 1)).toNat) e13)))) (some (.brk (u5.1, u5.2)))) (some (.brk (u5.1, u5.2)))
def m_slices_insertionSortCmpFunc_api_Pair__gleeref2_SungBy_1_l1 (a1 : Int) (a2 : Int) (a3_c0_0 : (List (ByteArray × Int))) (u1 : (Int × (List TPair))) : Option (Flow (Int × (List TPair)) (List TPair)) :=
  ifB (decide (u1.1 < a2)) ((loopM (m_slices_insertionSortCmpFunc_api_Pair__gleeref2_SungBy_1_l2 a1 a3_c0_0) (u1.1, u1.2)).bind fun f8 => Flow.fin f8 fun u5 => some (.nxt (w64 (u1.1 + 1), u5.2))) (some (.brk (u1.1, u1.2)))
def m_slices_insertionSortCmpFunc_api_Pair__gleeref2_SungBy_1 (a0 : (List TPair)) (a1 : Int) (a2 : Int) (a3_c0_0 : (List (ByteArray × Int))) : Option (List TPair) :=
  (loopM (m_slices_insertionSortCmpFunc_api_Pair__gleeref2_SungBy_1_l1 a1 a2 a3_c0_0) (w64 (a1 + 1), a0)).bind fun f4 => Flow.fin f4 fun u1 => some u1.2
def m_slices_stableCmpFunc_api_Pair__gleeref2_SungBy_1_l3 (a1 : Int) (u7 : (Int × Int × Int)) (u11 : Unit) : Option (Flow Unit (Flow (Int × Int × Int) (List TPair))) :=
  ifB (decide ((w64 (2 * u7.1)) ≤ a1)) (none) (some (.brk ()))
def m_slices_stableCmpFunc_api_Pair__gleeref2_SungBy_1_l2 (a1 : Int) (u7 : (Int × Int × Int)) : Option (Flow (Int × Int × Int) (List TPair)) :=
  ifB (decide (u7.1 < a1)) ((loopM (m_slices_stableCmpFunc_api_Pair__gleeref2_SungBy_1_l3 a1 u7) ()).bind fun f14 => Flow.fin f14 fun u11 => ifB (decide ((w64 (0 + u7.1)) < a1)) (none) (some (.nxt (w64 (u7.1 * 2), 0, w64 (2 * u7.1))))) (some (.brk (u7.1, u7.2.1, u7.2.2)))
def m_slices_stableCmpFunc_api_Pair__gleeref2_SungBy_1_l1 (a1 : Int) (a2_c0_0 : (List (ByteArray × Int))) (u1 : (Int × Int × (List TPair))) : Option (Flow (Int × Int × (List TPair)) (List TPair)) :=
  ifB (decide (u1.2.1 ≤ a1)) ((m_slices_insertionSortCmpFunc_api_Pair__gleeref2_SungBy_1 u1.2.2 u1.1 u1.2.1 a2_c0_0).bind fun y5 => some (.nxt (u1.2.1, w64 (u1.2.1 + 20), y5))) (some (.brk (u1.1, u1.2.1, u1.2.2)))
def m_slices_stableCmpFunc_api_Pair__gleeref2_SungBy_1 (a0 : (List TPair)) (a1 : Int) (a2_c0_0 : (List (ByteArray × Int))) : Option (List TPair) :=
  (loopM (m_slices_stableCmpFunc_api_Pair__gleeref2_SungBy_1_l1 a1 a2_c0_0) (0, 20, a0)).bind fun f4 => Flow.fin f4 fun u1 => (m_slices_insertionSortCmpFunc_api_Pair__gleeref2_SungBy_1 u1.2.2 u1.1 a1 a2_c0_0).bind fun y6 => (loopM (m_slices_stableCmpFunc_api_Pair__gleeref2_SungBy_1_l2 a1) (20, u1.1, u1.2.1)).bind fun f10 => Flow.fin f10 fun u7 => some y6
def m_slices_SortStableFunc_api_Pair_api_Pair__gleeref2_SungBy_1 (a0 : (List TPair)) (a1_c0_0 : (List (ByteArray × Int))) : Option (List TPair) :=
  (m_slices_stableCmpFunc_api_Pair__gleeref2_SungBy_1 a0 (a0.length : Int) a1_c0_0).bind fun y1 => some y1
def m_gleeref2_SungBy_l2 (x5 : TItem) (i12 : Nat) (x13 : ByteArray) (u15 : (List (ByteArray × Int))) : Option (Flow (List (ByteArray × Int)) (Flow (List (ByteArray × Int)) (List TPair))) :=
  some (.nxt (putM u15 x13 (w64 (((lkM u15 x13).getD 0) + x5.Long))))
def m_gleeref2_SungBy_l3 (u7 : (List (ByteArray × Int))) (i23 : Nat) (x24 : ByteArray) (u27 : (List TPair)) : Option (Flow (List TPair) (List TPair)) :=
  (m_strconv_Itoa ((lkM u7 x24).getD 0)).bind fun y32 => (appM 32 u27 [(TPair.mk x24 y32)]).bind fun q34 => some (.nxt q34)
def m_gleeref2_SungBy_l1  (i4 : Nat) (x5 : TItem) (u7 : (List (ByteArray × Int))) : Option (Flow (List (ByteArray × Int)) (List TPair)) :=
  (rangeM (m_gleeref2_SungBy_l2 x5) 0 x5.Parts u7).bind fun f18 => Flow.fin f18 fun u15 => some (.nxt u15)
def m_gleeref2_SungBy (a0 : TProgram) : Option (List TPair) :=
  (rangeM m_gleeref2_SungBy_l1 0 a0.Items []).bind fun f10 => Flow.fin f10 fun u7 => (m_gleeref2_partsIn a0.Items).bind fun y21 => (rangeM (m_gleeref2_SungBy_l3 u7) 0 y21 []).bind fun f30 => Flow.fin f30 fun u27 => (m_slices_SortStableFunc_api_Pair_api_Pair__gleeref2_SungBy_1 u27 u7).bind fun y37 => some y37
def m_gleeref2_LongestOf_l1 (a0 : TProgram) (a1 : ByteArray) (i2 : Nat) (x3 : TItem) (u5 : (Int × Int)) : Option (Flow (Int × Int) Int) :=
  (m_slices_Contains_string_string x3.Parts a1).bind fun y10 => (ifB y10 (some (.inl (w64 (u5.1 + x3.Long)))) (some (.inl 0)) : Option (Int ⊕ (Flow (Int × Int) Int))).bind fun k13 => Sum.fin k13 fun u11 => ifB ((i2 : Int) == a0.Half) (some (.nxt (0, max u5.2 u11))) (some (.nxt (u11, max u5.2 u11)))
def m_gleeref2_LongestOf (a0 : TProgram) (a1 : ByteArray) : Option Int :=
  (rangeM (m_gleeref2_LongestOf_l1 a0 a1) 0 a0.Items (0, 0)).bind fun f8 => Flow.fin f8 fun u5 => some u5.2
def m_gleeref2_between (a0 : TProgram) (a1 : Int) : Option Int :=
  ifB (a1 == a0.Half) (some a0.Break) ((getI a0.Items a1).bind fun e2 => (getI a0.Items (w64 (a1 + 1))).bind fun e3 => ifB (!(e2.Places.toList == e3.Places.toList)) (some a0.Change) (some a0.Clap))
def m_gleeref2_TimedOf_l1 (a0 : TProgram) (i2 : Nat) (x3 : TItem) (u6 : (Int × (List TTimed))) : Option (Flow (Int × (List TTimed)) (List TTimed)) :=
  (appM 32 u6.2 [(TTimed.mk x3.Key (TWindow.mk u6.1 (w64 (u6.1 + x3.Long))))]).bind fun q13 => ifB (decide ((w64 ((i2 : Int) + 1)) < (a0.Items.length : Int))) ((m_gleeref2_between a0 (i2 : Int)).bind fun y15 => some (.nxt (w64 ((w64 (u6.1 + x3.Long)) + y15), q13))) (some (.nxt (w64 (u6.1 + x3.Long), q13)))
def m_gleeref2_TimedOf (a0 : TProgram) (a1 : Int) : Option (List TTimed) :=
  (rangeM (m_gleeref2_TimedOf_l1 a0) 0 a0.Items (a1, [])).bind fun f9 => Flow.fin f9 fun u6 => some u6.2
def m_gleeref2_TiredIn_l2 (a1 : Int) (a2 : Int) (y2 : (List TTimed)) (x7 : ByteArray) (i15 : Nat) (x16 : TItem) (u18 : (Int × Int × (List TPair))) : Option (Flow (Int × Int × (List TPair)) (Flow (List TPair) (List TPair))) :=
  (m_slices_Contains_string_string x16.Parts x7).bind fun y24 => ifB (!y24) (some (.nxt (u18.1, u18.2.1, u18.2.2))) ((getI y2 (i15 : Int)).bind fun e25 => (ifB (decide ((w64 (e25.Time.From - u18.2.1)) ≥ a2)) (some (.inl 0)) (some (.inl u18.1)) : Option (Int ⊕ (Flow (Int × Int × (List TPair)) (Flow (List TPair) (List TPair))))).bind fun k28 => Sum.fin k28 fun u26 => (getI y2 (i15 : Int)).bind fun e29 => ifB (decide ((w64 (u26 + x16.Long)) > a1)) ((appM 32 u18.2.2 [(TPair.mk x7 x16.Key)]).bind fun q31 => some (.brk (w64 (u26 + x16.Long), e29.Time.To, q31))) (some (.nxt (w64 (u26 + x16.Long), e29.Time.To, u18.2.2))))
def m_gleeref2_TiredIn_l1 (a0 : TProgram) (a1 : Int) (a2 : Int) (y2 : (List TTimed)) (i6 : Nat) (x7 : ByteArray) (u10 : (List TPair)) : Option (Flow (List TPair) (List TPair)) :=
  (rangeM (m_gleeref2_TiredIn_l2 a1 a2 y2 x7) 0 a0.Items (0, 0, u10)).bind fun f21 => Flow.fin f21 fun u18 => some (.nxt u18.2.2)
def m_gleeref2_TiredIn (a0 : TProgram) (a1 : Int) (a2 : Int) : Option (List TPair) :=
  (m_gleeref2_TimedOf a0 0).bind fun y2 => (m_gleeref2_partsIn a0.Items).bind fun y4 => (rangeM (m_gleeref2_TiredIn_l1 a0 a1 a2 y2) 0 y4 []).bind fun f13 => Flow.fin f13 fun u10 => some u10
def m_slices_Equal_api_Pair_api_Pair_l1 (a1 : (List TPair)) (i1 : Nat) (x2 : TPair) (u4 : Unit) : Option (Flow Unit Bool) :=
  (getI a1 (i1 : Int)).bind fun e8 => ifB (!(decide (x2 = e8))) (some (.ret false)) (some (.nxt ()))
def m_slices_Equal_api_Pair_api_Pair (a0 : (List TPair)) (a1 : (List TPair)) : Option Bool :=
  ifB ((a0.length : Int) != (a1.length : Int)) (some false) ((rangeM (m_slices_Equal_api_Pair_api_Pair_l1 a1) 0 a0 ()).bind fun f7 => Flow.fin f7 fun u4 => some true)
def m_concert_Long (a0 : TProgram) : Option (Int × Int) :=
  (m_concert_CheckProgram a0).bind fun y2 => ifB (y2 != 0) (some (0, y2)) ((m_concert_begins a0).bind fun y3 => some (y3.2, 0))
def m_gleelaw2_sung  : Option Bool :=
  (m_concert_Long (TProgram.mk [(TItem.mk (ByteArray.mk [97].toArray) (ByteArray.mk [112].toArray) 7 [(ByteArray.mk [97, 108, 116, 111].toArray)])] 0 0 0 (-1))).bind fun y3 => ifB (y3.2 == 0) (some (y3.1 == 7)) (some false)
def m_gleelaw2_VoicesRest (a0 : (List Int)) : Option Bool :=
  (m_gleemake_Stream_AProgram a0 0 5).bind fun y2 => (m_gleemake_Stream_Some a0 y2.2 [(ByteArray.mk [97, 108, 116, 111].toArray), (ByteArray.mk [98, 97, 115, 115].toArray), (ByteArray.mk [115, 111, 108, 105].toArray), (ByteArray.mk [122, 122].toArray), ByteArray.empty]).bind fun y6 => (m_gleemake_Stream_Pick a0 y6.2 [50, 100, 200, 300, 0, 86400001]).bind fun y8 => (m_gleemake_Stream_Pick a0 y8.2 [1, 10, 30, 100, 200, 0, 86400001]).bind fun y10 => (m_concert_Sung y2.1).bind fun y12 => (m_concert_Longest y2.1 y6.1).bind fun y14 => (m_concert_Tired y2.1 y8.1 y10.1).bind fun y15 => (m_gleeref2_ProgramFault y2.1).bind fun y17 => (m_gleelaw2_nameFault y6.1).bind fun y18 => (m_gleelaw2_errs [y17, y18]).bind fun y20 => (ifB (decide (y8.1 < 1)) ((m_gleelaw2_when true 1).bind fun y24 => (m_gleelaw2_errs [y17, y24]).bind fun y26 => some (.inl y26)) (ifB (decide (y8.1 > 86400000)) ((m_gleelaw2_when true 1).bind fun y27 => (m_gleelaw2_errs [y17, y27]).bind fun y29 => some (.inl y29)) (ifB (decide (y10.1 < 1)) ((m_gleelaw2_when true 1).bind fun y30 => (m_gleelaw2_errs [y17, y30]).bind fun y32 => some (.inl y32)) ((m_gleelaw2_when (decide (y10.1 > 86400000)) 1).bind fun y33 => (m_gleelaw2_errs [y17, y33]).bind fun y35 => some (.inl y35)))) : Option (Int ⊕ Bool)).bind fun k23 => Sum.fin k23 fun u21 => (ifB (y17 == 0) ((m_gleeref2_SungBy y2.1).bind fun y40 => some (.inl y40)) (some (.inl [])) : Option ((List TPair) ⊕ Bool)).bind fun k39 => Sum.fin k39 fun u36 => (ifB (y20 == 0) ((m_gleeref2_LongestOf y2.1 y6.1).bind fun y46 => some (.inl y46)) (some (.inl 0)) : Option (Int ⊕ Bool)).bind fun k45 => Sum.fin k45 fun u43 => (ifB (u21 == 0) ((m_gleeref2_TiredIn y2.1 y8.1 y10.1).bind fun y51 => some (.inl y51)) (some (.inl [])) : Option ((List TPair) ⊕ Bool)).bind fun k50 => Sum.fin k50 fun u47 => ifB (y12.2 == y17) ((m_slices_Equal_api_Pair_api_Pair y12.1 u36).bind fun y54 => ifB y54 (ifB (y14.2 == y20) (ifB (y14.1 == u43) (ifB (y15.2 == u21) ((m_slices_Equal_api_Pair_api_Pair y15.1 u47).bind fun y55 => ifB y55 (m_gleelaw2_sung.bind fun y56 => some y56) (some false)) (some false)) (some false)) (some false)) (some false)) (some false)
end
end Go.G
