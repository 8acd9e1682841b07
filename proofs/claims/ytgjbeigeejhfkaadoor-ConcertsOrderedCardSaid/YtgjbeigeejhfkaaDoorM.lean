/- The models. Written by program. -/
import Derived.Test.YtgjbeigeejhfkaaDoorXM
namespace Go.G
open Go Go.J
set_option linter.unusedVariables false
noncomputable section
structure Tgleemake_Stream where
  L : (List Int)
  at_ : Int
  deriving DecidableEq, Inhabited
structure TItem where
  Key : ByteArray
  Places : ByteArray
  Long : Int
  Parts : (List ByteArray)
  deriving DecidableEq, Inhabited
structure TProgram where
  Items : (List TItem)
  Change : Int
  Clap : Int
  Break : Int
  Half : Int
  deriving DecidableEq, Inhabited
structure Tconcert_rank where
  long_ : Int
  pairs : Int
  keys : (List ByteArray)
  deriving DecidableEq, Inhabited
structure TWindow where
  From : Int
  To : Int
  deriving DecidableEq, Inhabited
structure TTimed where
  Key : ByteArray
  Time : TWindow
  deriving DecidableEq, Inhabited
def m_gleemake_Below (a0 : Int) (a1 : Int) : Option Int :=
  ifB (decide (a1 < 1)) (some 0) ((remM a0 a1).bind fun z1 => ifB (decide (z1 < 0)) (some (w64 (z1 + a1))) (some z1))
def m_gleemake_Stream_Next (a0_0 : (List Int)) (a0_1 : Int) (a1 : Int) : Option (Int × Int) :=
  ifB ((a0_0.length : Int) == 0) ((m_gleemake_Below (w64 ((w64 (a0_1 + 1)) * 7919)) a1).bind fun y1 => some (y1, w64 (a0_1 + 1))) ((remM (w64 ((w64 (a0_1 + 1)) - 1)) (a0_0.length : Int)).bind fun z2 => (quoM (w64 ((w64 (a0_1 + 1)) - 1)) (a0_0.length : Int)).bind fun z3 => (getI a0_0 z2).bind fun e4 => (m_gleemake_Below e4 1073741824).bind fun y5 => (m_gleemake_Below (w64 (y5 + (w64 (z3 * (w64 (7919 + z2)))))) a1).bind fun y6 => some (y6, w64 (a0_1 + 1)))
def m_gleemake_Stream_Pick (a0_0 : (List Int)) (a0_1 : Int) (a1 : (List Int)) : Option (Int × Int) :=
  (m_gleemake_Stream_Next a0_0 a0_1 (a1.length : Int)).bind fun y1 => (getI a1 y1.1).bind fun e2 => some (e2, y1.2)
def m_gleemake_Stream_Flip (a0_0 : (List Int)) (a0_1 : Int) (a1 : Int) : Option (Bool × Int) :=
  (m_gleemake_Stream_Next a0_0 a0_1 a1).bind fun y1 => some (y1.1 == 0, y1.2)
def m_gleemake_Stream_Some (a0_0 : (List Int)) (a0_1 : Int) (a1 : (List ByteArray)) : Option (ByteArray × Int) :=
  (m_gleemake_Stream_Next a0_0 a0_1 (a1.length : Int)).bind fun y1 => (getI a1 y1.1).bind fun e2 => some (e2, y1.2)
def m_gleemake_Stream_RightProgram_l2 (a0_0 : (List Int)) (i27 : Nat) (x28 : ByteArray) (u31 : (Int × (List ByteArray))) : Option (Flow (Int × (List ByteArray)) (Flow (Int × (List TItem)) (TProgram × Int))) :=
  (m_gleemake_Stream_Flip a0_0 u31.1 2).bind fun y36 => ifB y36.1 ((appM 16 u31.2 [x28]).bind fun q38 => some (.nxt (y36.2, q38))) (some (.nxt (y36.2, u31.2)))
def m_gleemake_Stream_RightProgram_l1 (a0_0 : (List Int)) (i11 : Nat) (x12 : ByteArray) (u15 : (Int × (List TItem))) : Option (Flow (Int × (List TItem)) (TProgram × Int)) :=
  (m_gleemake_Stream_Flip a0_0 u15.1 6).bind fun y20 => ifB y20.1 (some (.nxt (y20.2, u15.2))) ((m_gleemake_Stream_Some a0_0 y20.2 [(ByteArray.mk [114, 111, 119, 115].toArray), (ByteArray.mk [114, 111, 119, 115].toArray), (ByteArray.mk [99, 105, 114, 99, 108, 101].toArray)]).bind fun y22 => (m_gleemake_Stream_Pick a0_0 y22.2 [50, 100, 100, 200]).bind fun y24 => (rangeM (m_gleemake_Stream_RightProgram_l2 a0_0) 0 [(ByteArray.mk [97, 108, 116, 111].toArray), (ByteArray.mk [98, 97, 115, 115].toArray), (ByteArray.mk [115, 111, 108, 105].toArray)] (y24.2, [])).bind fun f34 => Flow.fin f34 fun u31 => (ifB ((u31.2.length : Int) == 0) (some (.inl [(ByteArray.mk [97, 108, 116, 111].toArray)])) (some (.inl u31.2)) : Option ((List ByteArray) ⊕ (Flow (Int × (List TItem)) (TProgram × Int)))).bind fun k44 => Sum.fin k44 fun u41 => (appM 64 u15.2 [(TItem.mk x12 y22.1 y24.1 u41)]).bind fun q47 => some (.nxt (u31.1, q47)))
def m_gleemake_Stream_RightProgram (a0_0 : (List Int)) (a0_1 : Int) (a1 : Int) : Option (TProgram × Int) :=
  (m_gleemake_Stream_Pick a0_0 a0_1 [0, 30, 50]).bind fun y3 => (m_gleemake_Stream_Pick a0_0 y3.2 [0, 10, 30]).bind fun y5 => (m_gleemake_Stream_Pick a0_0 y5.2 [0, 100]).bind fun y7 => (sliceI [(ByteArray.mk [99].toArray), (ByteArray.mk [97].toArray), (ByteArray.mk [100].toArray), (ByteArray.mk [98].toArray), (ByteArray.mk [101].toArray)] 0 a1).bind fun q10 => (rangeM (m_gleemake_Stream_RightProgram_l1 a0_0) 0 q10 (y7.2, [])).bind fun f18 => Flow.fin f18 fun u15 => (ifB (decide ((u15.2.length : Int) > 1)) ((m_gleemake_Stream_Flip a0_0 u15.1 2).bind fun y54 => some (.inl (y54.1, y54.2))) (some (.inl (false, u15.1))) : Option ((Bool × Int) ⊕ (TProgram × Int))).bind fun k53 => Sum.fin k53 fun u51 => ifB u51.1 ((m_gleemake_Stream_Next a0_0 u51.2 (w64 ((u15.2.length : Int) - 1))).bind fun y55 => some ((TProgram.mk u15.2 y3.1 y5.1 y7.1 y55.1), y55.2)) (some ((TProgram.mk u15.2 y3.1 y5.1 y7.1 (-1)), u51.2))
def m_gleemake_Stream_Range (a0_0 : (List Int)) (a0_1 : Int) (a1 : Int) (a2 : Int) : Option (Int × Int) :=
  ifB (decide (a2 < a1)) (some (a1, a0_1)) ((m_gleemake_Stream_Next a0_0 a0_1 (w64 ((w64 (a2 - a1)) + 1))).bind fun y1 => some (w64 (a1 + y1.1), y1.2))
def m_gleemake_Stream_Odd (a0_0 : (List Int)) (a0_1 : Int) (a1 : Int) (a2 : Int) : Option (Int × Int) :=
  (m_gleemake_Stream_Flip a0_0 a0_1 12).bind fun y1 => ifB y1.1 ((m_gleemake_Stream_Pick a0_0 y1.2 [w64 (a1 - 1), w64 (a2 + 1), a1, a2, (-1099511627776), 1099511627776]).bind fun y3 => some (y3.1, y3.2)) ((m_gleemake_Stream_Range a0_0 y1.2 a1 a2).bind fun y4 => some (y4.1, y4.2))
def m_slices_Clone_string_string (a0 : (List ByteArray)) : Option (List ByteArray) :=
  (appM 16 ([] : List ByteArray) a0).bind fun q3 => some q3
def m_gleemake_Stream_AProgram (a0_0 : (List Int)) (a0_1 : Int) (a1 : Int) : Option (TProgram × Int) :=
  (m_gleemake_Stream_RightProgram a0_0 a0_1 a1).bind fun y2 => (m_gleemake_Stream_Flip a0_0 y2.2 12).bind fun y6 => ifB y6.1 ((m_gleemake_Stream_Next a0_0 y6.2 3).bind fun y7 => ifB (y7.1 == 0) ((m_gleemake_Stream_Odd a0_0 y7.2 (-1) 4).bind fun y8 => some ((TProgram.mk y2.1.Items y2.1.Change y2.1.Clap y2.1.Break y8.1), y8.2)) (ifB (y7.1 == 1) ((m_gleemake_Stream_Odd a0_0 y7.2 0 86400000).bind fun y9 => (m_gleemake_Stream_Odd a0_0 y9.2 0 86400000).bind fun y10 => (m_gleemake_Stream_Odd a0_0 y10.2 0 86400000).bind fun y11 => some ((TProgram.mk y2.1.Items y9.1 y10.1 y11.1 y2.1.Half), y11.2)) (ifB (decide ((y2.1.Items.length : Int) > 0)) ((m_gleemake_Stream_Next a0_0 y7.2 (y2.1.Items.length : Int)).bind fun y12 => (getI y2.1.Items y12.1).bind fun e13 => (m_gleemake_Stream_Some a0_0 y12.2 [e13.Key, ByteArray.empty, (ByteArray.mk [97].toArray)]).bind fun y15 => (m_gleemake_Stream_Odd a0_0 y15.2 1 86400000).bind fun y16 => (m_slices_Clone_string_string e13.Parts).bind fun y17 => (m_gleemake_Stream_Some a0_0 y16.2 [(ByteArray.mk [122, 122].toArray), ByteArray.empty, (ByteArray.mk [97, 108, 116, 111].toArray)]).bind fun y20 => (appM 16 y17 [y20.1]).bind fun q22 => some ((TProgram.mk (((y2.1.Items.set y12.1.toNat (TItem.mk y15.1 e13.Places e13.Long e13.Parts)).set y12.1.toNat (TItem.mk y15.1 e13.Places y16.1 e13.Parts)).set y12.1.toNat (TItem.mk y15.1 e13.Places y16.1 q22)) y2.1.Change y2.1.Clap y2.1.Break y2.1.Half), y20.2)) (some (y2.1, y7.2))))) (some (y2.1, y6.2))
def m_kit_IsKey (a0 : ByteArray) : Option Bool :=
  ifB (!(a0.toList == ByteArray.empty.toList)) (ifB (decide ((a0.size : Int) ≤ 40)) ((strI a0 0).bind fun c1 => (m_strings_IndexByte (ByteArray.mk [97, 98, 99, 100, 101, 102, 103, 104, 105, 106, 107, 108, 109, 110, 111, 112, 113, 114, 115, 116, 117, 118, 119, 120, 121, 122].toArray) c1).bind fun y2 => ifB (decide (y2 ≥ 0)) ((m_strings_Trim a0 (ByteArray.mk [97, 98, 99, 100, 101, 102, 103, 104, 105, 106, 107, 108, 109, 110, 111, 112, 113, 114, 115, 116, 117, 118, 119, 120, 121, 122, 48, 49, 50, 51, 52, 53, 54, 55, 56, 57, 45, 95].toArray)).bind fun y3 => some (y3.toList == ByteArray.empty.toList)) (some false)) (some false)) (some false)
def m_concert_CheckItems_1 (a0 : TItem) (a1_0 : ByteArray) (a1_1 : ByteArray) (a1_2 : Int) (a1_3 : (List ByteArray)) : Option Bool :=
  some (a0.Key.toList == a1_0.toList)
def m_slices_IndexFunc_api_Item_api_Item__concert_CheckItems_1_l1 (a1_c0_0 : ByteArray) (a1_c0_1 : ByteArray) (a1_c0_2 : Int) (a1_c0_3 : (List ByteArray)) (i1 : Nat) (x2 : TItem) (u4 : Unit) : Option (Flow Unit Int) :=
  (m_concert_CheckItems_1 x2 a1_c0_0 a1_c0_1 a1_c0_2 a1_c0_3).bind fun y8 => ifB y8 (some (.ret (i1 : Int))) (some (.nxt ()))
def m_slices_IndexFunc_api_Item_api_Item__concert_CheckItems_1 (a0 : (List TItem)) (a1_c0_0 : ByteArray) (a1_c0_1 : ByteArray) (a1_c0_2 : Int) (a1_c0_3 : (List ByteArray)) : Option Int :=
  (rangeM (m_slices_IndexFunc_api_Item_api_Item__concert_CheckItems_1_l1 a1_c0_0 a1_c0_1 a1_c0_2 a1_c0_3) 0 a0 ()).bind fun f7 => Flow.fin f7 fun u4 => some (-1)
def m_slices_ContainsFunc_api_Item_api_Item__concert_CheckItems_1 (a0 : (List TItem)) (a1_c0_0 : ByteArray) (a1_c0_1 : ByteArray) (a1_c0_2 : Int) (a1_c0_3 : (List ByteArray)) : Option Bool :=
  (m_slices_IndexFunc_api_Item_api_Item__concert_CheckItems_1 a0 a1_c0_0 a1_c0_1 a1_c0_2 a1_c0_3).bind fun y1 => some (decide (y1 ≥ 0))
def m_kit_Outside (a0 : Int) (a1 : Int) (a2 : Int) : Option Bool :=
  ifB (decide (a0 < a1)) (some true) (some (decide (a0 > a2)))
def m_concert_partsFault_l1 (a0 : (List ByteArray)) (i1 : Nat) (x2 : ByteArray) (u4 : Unit) : Option (Flow Unit Int) :=
  (m_kit_IsKey x2).bind fun y8 => ifB (!y8) (some (.ret 5)) ((ifB (decide ((i1 : Int) > 0)) ((getI a0 (w64 ((i1 : Int) - 1))).bind fun e12 => some (.inl (Op.bytesLess x2.toList e12.toList || x2.toList == e12.toList))) (some (.inl false)) : Option (Bool ⊕ (Flow Unit Int))).bind fun k11 => Sum.fin k11 fun u9 => ifB u9 (some (.ret 7)) (some (.nxt ())))
def m_concert_partsFault (a0 : (List ByteArray)) : Option Int :=
  ifB ((a0.length : Int) == 0) (some 8) (ifB (decide ((a0.length : Int) > 12)) (some 2) ((rangeM (m_concert_partsFault_l1 a0) 0 a0 ()).bind fun f7 => Flow.fin f7 fun u4 => some 0))
def m_concert_CheckItems_l1 (a0 : (List TItem)) (i1 : Nat) (x2 : TItem) (u4 : Unit) : Option (Flow Unit Int) :=
  ((m_kit_IsKey x2.Key).bind fun y12 => ifB (!y12) (some (.inl true)) ((m_kit_IsKey x2.Places).bind fun y13 => some (.inl (!y13))) : Option (Bool ⊕ (Flow Unit Int))).bind fun k11 => Sum.fin k11 fun u9 => ifB u9 (some (.ret 5)) ((sliceI a0 0 (i1 : Int)).bind fun q14 => (m_slices_ContainsFunc_api_Item_api_Item__concert_CheckItems_1 q14 x2.Key x2.Places x2.Long x2.Parts).bind fun y15 => ifB y15 (some (.ret 6)) ((m_kit_Outside x2.Long 1 86400000).bind fun y16 => ifB y16 (some (.ret 1)) ((m_concert_partsFault x2.Parts).bind fun y17 => ifB (y17 != 0) (some (.ret y17)) (some (.nxt ())))))
def m_concert_CheckItems (a0 : (List TItem)) : Option Int :=
  ifB (decide ((a0.length : Int) > 60)) (some 2) ((rangeM (m_concert_CheckItems_l1 a0) 0 a0 ()).bind fun f7 => Flow.fin f7 fun u4 => some 0)
def m_concert_CheckProgram (a0 : TProgram) : Option Int :=
  (m_concert_CheckItems a0.Items).bind fun y2 => ifB (y2 != 0) (some y2) (((m_kit_Outside a0.Change 0 86400000).bind fun y6 => ifB y6 (some (.inl true)) ((m_kit_Outside a0.Clap 0 86400000).bind fun y7 => ifB y7 (some (.inl true)) ((m_kit_Outside a0.Break 0 86400000).bind fun y8 => ifB y8 (some (.inl true)) ((m_kit_Outside a0.Half (-1) (max (-1) (w64 ((a0.Items.length : Int) - 2)))).bind fun y9 => some (.inl y9)))) : Option (Bool ⊕ Int)).bind fun k5 => Sum.fin k5 fun u3 => ifB u3 (some 1) (some 0))
def m_slices_Clone_api_Item_api_Item (a0 : (List TItem)) : Option (List TItem) :=
  (appM 64 ([] : List TItem) a0).bind fun q3 => some q3
def m_concert_change (a0 : TProgram) (a1 : TItem) (a2 : TItem) : Option Int :=
  ifB (!(a1.Places.toList == a2.Places.toList)) (some a0.Change) (some a0.Clap)
def m_concert_behind (a0 : TProgram) (a1 : Int) : Option Int :=
  ifB (a1 == a0.Half) (some a0.Break) ((getI a0.Items a1).bind fun e2 => (getI a0.Items (w64 (a1 + 1))).bind fun e3 => (m_concert_change a0 e2 e3).bind fun y4 => some y4)
def m_concert_begins_l1 (a0 : TProgram) (i2 : Nat) (x3 : TItem) (u6 : (Int × (List Int))) : Option (Flow (Int × (List Int)) ((List Int) × Int)) :=
  (appM 8 u6.2 [u6.1]).bind fun q13 => ifB (decide ((w64 ((i2 : Int) + 1)) < (a0.Items.length : Int))) ((m_concert_behind a0 (i2 : Int)).bind fun y15 => some (.nxt (w64 ((w64 (u6.1 + x3.Long)) + y15), q13))) (some (.nxt (w64 (u6.1 + x3.Long), q13)))
def m_concert_begins (a0 : TProgram) : Option ((List Int) × Int) :=
  (rangeM (m_concert_begins_l1 a0) 0 a0.Items (0, [])).bind fun f9 => Flow.fin f9 fun u6 => some (u6.2, u6.1)
def m_slices_Index_string_string_l1 (a1 : ByteArray) (i1 : Nat) (x2 : ByteArray) (u4 : Unit) : Option (Flow Unit Int) :=
  ifB (a1.toList == x2.toList) (some (.ret (i1 : Int))) (some (.nxt ()))
def m_slices_Index_string_string (a0 : (List ByteArray)) (a1 : ByteArray) : Option Int :=
  (rangeM (m_slices_Index_string_string_l1 a1) 0 a0 ()).bind fun f7 => Flow.fin f7 fun u4 => some (-1)
def m_slices_Contains_string_string (a0 : (List ByteArray)) (a1 : ByteArray) : Option Bool :=
  (m_slices_Index_string_string a0 a1).bind fun y1 => some (decide (y1 ≥ 0))
def m_concert_common_1 (a0 : ByteArray) (a1_0 : ByteArray) (a1_1 : ByteArray) (a1_2 : Int) (a1_3 : (List ByteArray)) : Option Bool :=
  (m_slices_Contains_string_string a1_3 a0).bind fun y1 => some y1
def m_slices_IndexFunc_string_string__concert_common_1_l1 (a1_c0_0 : ByteArray) (a1_c0_1 : ByteArray) (a1_c0_2 : Int) (a1_c0_3 : (List ByteArray)) (i1 : Nat) (x2 : ByteArray) (u4 : Unit) : Option (Flow Unit Int) :=
  (m_concert_common_1 x2 a1_c0_0 a1_c0_1 a1_c0_2 a1_c0_3).bind fun y8 => ifB y8 (some (.ret (i1 : Int))) (some (.nxt ()))
def m_slices_IndexFunc_string_string__concert_common_1 (a0 : (List ByteArray)) (a1_c0_0 : ByteArray) (a1_c0_1 : ByteArray) (a1_c0_2 : Int) (a1_c0_3 : (List ByteArray)) : Option Int :=
  (rangeM (m_slices_IndexFunc_string_string__concert_common_1_l1 a1_c0_0 a1_c0_1 a1_c0_2 a1_c0_3) 0 a0 ()).bind fun f7 => Flow.fin f7 fun u4 => some (-1)
def m_slices_ContainsFunc_string_string__concert_common_1 (a0 : (List ByteArray)) (a1_c0_0 : ByteArray) (a1_c0_1 : ByteArray) (a1_c0_2 : Int) (a1_c0_3 : (List ByteArray)) : Option Bool :=
  (m_slices_IndexFunc_string_string__concert_common_1 a0 a1_c0_0 a1_c0_1 a1_c0_2 a1_c0_3).bind fun y1 => some (decide (y1 ≥ 0))
def m_concert_common (a0 : TItem) (a1 : TItem) : Option Bool :=
  (m_slices_ContainsFunc_string_string__concert_common_1 a0.Parts a1.Key a1.Places a1.Long a1.Parts).bind fun y3 => some y3
def m_concert_rankOf_l1 (a0 : TProgram) (i6 : Nat) (x7 : TItem) (u10 : (Int × (List ByteArray))) : Option (Flow (Int × (List ByteArray)) Tconcert_rank) :=
  (appM 16 u10.2 [x7.Key]).bind fun q17 => ifB (decide ((i6 : Int) > 0)) (ifB ((w64 ((i6 : Int) - 1)) != a0.Half) ((getI a0.Items (w64 ((i6 : Int) - 1))).bind fun e19 => (m_concert_common e19 x7).bind fun y20 => ifB y20 (some (.nxt (w64 (u10.1 + 1), q17))) (some (.nxt (u10.1, q17)))) (some (.nxt (u10.1, q17)))) (some (.nxt (u10.1, q17)))
def m_concert_rankOf (a0 : TProgram) : Option Tconcert_rank :=
  (m_concert_begins a0).bind fun y4 => (rangeM (m_concert_rankOf_l1 a0) 0 a0.Items (0, [])).bind fun f13 => Flow.fin f13 fun u10 => some (Tconcert_rank.mk y4.2 u10.1 u10.2)
def m_cmp_isNaN_string (a0 : ByteArray) : Option Bool :=
  some (!(a0.toList == a0.toList))
def m_cmp_Compare_string (a0 : ByteArray) (a1 : ByteArray) : Option Int :=
  (m_cmp_isNaN_string a0).bind fun y1 => (m_cmp_isNaN_string a1).bind fun y2 => ifB y1 (ifB y2 (some 0) (some (-1))) (ifB y2 (some 1) (ifB (Op.bytesLess a0.toList a1.toList) (some (-1)) (ifB (!(Op.bytesLess a0.toList a1.toList || a0.toList == a1.toList)) (some 1) (some 0))))
def m_slices_Compare_string_string_l1 (a1 : (List ByteArray)) (i1 : Nat) (x2 : ByteArray) (u4 : Unit) : Option (Flow Unit Int) :=
  ifB (decide ((i1 : Int) ≥ (a1.length : Int))) (some (.ret 1)) ((getI a1 (i1 : Int)).bind fun e8 => (m_cmp_Compare_string x2 e8).bind fun y9 => ifB (y9 != 0) (some (.ret y9)) (some (.nxt ())))
def m_slices_Compare_string_string (a0 : (List ByteArray)) (a1 : (List ByteArray)) : Option Int :=
  (rangeM (m_slices_Compare_string_string_l1 a1) 0 a0 ()).bind fun f7 => Flow.fin f7 fun u4 => ifB (decide ((a0.length : Int) < (a1.length : Int))) (some (-1)) (some 0)
def m_concert_rank_less (a0 : Tconcert_rank) (a1 : Tconcert_rank) : Option Bool :=
  ifB (a0.long_ != a1.long_) (some (decide (a0.long_ < a1.long_))) (ifB (a0.pairs != a1.pairs) (some (decide (a0.pairs < a1.pairs))) ((m_slices_Compare_string_string a0.keys a1.keys).bind fun y3 => some (decide (y3 < 0))))
def m_concert_Order_1 (a0_0 : (List TItem)) (a0_1 : Int) (a0_2 : Int) (a0_3 : Int) (a0_4 : Int) (a1_0 : Bool) (a2_0 : Int) (a2_1 : Int) (a2_2 : (List ByteArray)) : Option (Bool × Int × Int × (List ByteArray)) :=
  (m_concert_rankOf (TProgram.mk a0_0 a0_1 a0_2 a0_3 a0_4)).bind fun y1 => (ifB (!a1_0) (some (.inl true)) ((m_concert_rank_less y1 (Tconcert_rank.mk a2_0 a2_1 a2_2)).bind fun y7 => some (.inl y7)) : Option (Bool ⊕ (Bool × Int × Int × (List ByteArray)))).bind fun k6 => Sum.fin k6 fun u4 => ifB u4 (some (true, y1.long_, y1.pairs, y1.keys)) (some (a1_0, a2_0, a2_1, a2_2))
def m_concert_orders__al__concert_Order_1_l1 (a1 : Int) (a2_c0_1 : Int) (a2_c0_2 : Int) (a2_c0_3 : Int) (a2_c0_4 : Int) (self_ : (Int → (List TItem) → Int → Int → Int → Int → Bool → Int → Int → (List ByteArray) → Option ((List TItem) × Bool × Int × Int × (List ByteArray)))) (u3 : (Int × Bool × Int × Int × (List TItem) × (List ByteArray))) : Option (Flow (Int × Bool × Int × Int × (List TItem) × (List ByteArray)) ((List TItem) × Bool × Int × Int × (List ByteArray))) :=
  ifB (decide (u3.1 < (u3.2.2.2.2.1.length : Int))) ((getI u3.2.2.2.2.1 u3.1).bind fun e7 => (getI u3.2.2.2.2.1 a1).bind fun e8 => (getI u3.2.2.2.2.1 a1).bind fun e9 => (getI (u3.2.2.2.2.1.set a1.toNat e7) u3.1).bind fun e11 => (self_ (w64 (a1 + 1)) ((u3.2.2.2.2.1.set a1.toNat e7).set u3.1.toNat e8) a2_c0_1 a2_c0_2 a2_c0_3 a2_c0_4 u3.2.1 u3.2.2.1 u3.2.2.2.1 u3.2.2.2.2.2).bind fun y13 => (getI y13.1 u3.1).bind fun e16 => (getI y13.1 a1).bind fun e17 => (getI y13.1 a1).bind fun e18 => (getI (y13.1.set a1.toNat e16) u3.1).bind fun e20 => some (.nxt (w64 (u3.1 + 1), y13.2.1, y13.2.2.1, y13.2.2.2.1, ((y13.1.set a1.toNat e16).set u3.1.toNat e17), y13.2.2.2.2))) (some (.brk (u3.1, u3.2.1, u3.2.2.1, u3.2.2.2.1, u3.2.2.2.2.1, u3.2.2.2.2.2)))
def m_concert_orders__al__concert_Order_1_b (self_ : (Int → (List TItem) → Int → Int → Int → Int → Bool → Int → Int → (List ByteArray) → Option ((List TItem) × Bool × Int × Int × (List ByteArray)))) (a1 : Int) (a2_c0_0 : (List TItem)) (a2_c0_1 : Int) (a2_c0_2 : Int) (a2_c0_3 : Int) (a2_c0_4 : Int) (a2_c1_0 : Bool) (a2_c2_0 : Int) (a2_c2_1 : Int) (a2_c2_2 : (List ByteArray)) : Option ((List TItem) × Bool × Int × Int × (List ByteArray)) :=
  ifB (a1 == (a2_c0_0.length : Int)) ((m_concert_Order_1 a2_c0_0 a2_c0_1 a2_c0_2 a2_c0_3 a2_c0_4 a2_c1_0 a2_c2_0 a2_c2_1 a2_c2_2).bind fun y1 => some (a2_c0_0, y1.1, y1.2.1, y1.2.2.1, y1.2.2.2)) ((loopM (m_concert_orders__al__concert_Order_1_l1 a1 a2_c0_1 a2_c0_2 a2_c0_3 a2_c0_4 self_) (a1, a2_c1_0, a2_c2_0, a2_c2_1, a2_c0_0, a2_c2_2)).bind fun f6 => Flow.fin f6 fun u3 => some (u3.2.2.2.2.1, u3.2.1, u3.2.2.1, u3.2.2.2.1, u3.2.2.2.2.2))
def m_concert_orders__al__concert_Order_1 : Nat → Int → (List TItem) → Int → Int → Int → Int → Bool → Int → Int → (List ByteArray) → Option ((List TItem) × Bool × Int × Int × (List ByteArray))
  | 0 => fun _ _ _ _ _ _ _ _ _ _ => none
  | fu_ + 1 => m_concert_orders__al__concert_Order_1_b (m_concert_orders__al__concert_Order_1 fu_)
def m_concert_Order (a0 : TProgram) : Option ((List ByteArray) × Int × Int) :=
  (m_concert_CheckProgram a0).bind fun y2 => ifB (y2 != 0) (some ([], 0, y2)) (ifB (decide ((a0.Items.length : Int) > 7)) (some ([], 0, 2)) ((m_slices_Clone_api_Item_api_Item a0.Items).bind fun y5 => (m_concert_orders__al__concert_Order_1 FUEL 0 y5 a0.Change a0.Clap a0.Break a0.Half false 0 0 []).bind fun y11 => some (y11.2.2.2.2, y11.2.2.1, 0)))
def m_concert_longOf (a0 : TProgram) (a1 : (List TItem)) : Option Int :=
  (m_concert_begins (TProgram.mk a1 a0.Change a0.Clap a0.Break (-1))).bind fun y2 => some y2.2
def m_concert_Half_l1 (a0 : TProgram) (i3 : Nat) (x4 : Nat) (u6 : (Int × Int)) : Option (Flow (Int × Int) (Int × Int × Int)) :=
  (sliceI a0.Items 0 (w64 ((i3 : Int) + 1))).bind fun q10 => (m_concert_longOf a0 q10).bind fun y11 => (sliceI a0.Items (w64 ((i3 : Int) + 1)) (a0.Items.length : Int)).bind fun q12 => (m_concert_longOf a0 q12).bind fun y13 => (ifB (decide (u6.1 < 0)) (some (.inl true)) (some (.inl (decide ((max (w64 (y11 - y13)) (w64 (y13 - y11))) < u6.2)))) : Option (Bool ⊕ (Flow (Int × Int) (Int × Int × Int)))).bind fun k16 => Sum.fin k16 fun u14 => ifB u14 (some (.nxt ((i3 : Int), max (w64 (y11 - y13)) (w64 (y13 - y11))))) (some (.nxt (u6.1, u6.2)))
def m_concert_Half (a0 : TProgram) : Option (Int × Int × Int) :=
  (m_concert_CheckProgram a0).bind fun y2 => ifB (y2 != 0) (some (0, 0, y2)) (ifB (decide ((a0.Items.length : Int) < 2)) (some (0, 0, 8)) ((rangeI (w64 ((a0.Items.length : Int) - 1))).bind fun L17 => (rangeM (m_concert_Half_l1 a0) 0 L17 ((-1), 0)).bind fun f9 => Flow.fin f9 fun u6 => some (u6.1, u6.2, 0)))
def m_gleeref2_in (a0 : Int) (a1 : Int) (a2 : Int) : Option Bool :=
  ifB (decide (a1 ≤ a0)) (some (decide (a0 ≤ a2))) (some false)
def m_gleeref2_only_l1 (a0 : ByteArray) (a1 : ByteArray) (i1 : Nat) (x2 : Nat) (u4 : Unit) : Option (Flow Unit Bool) :=
  (strI a0 (i1 : Int)).bind fun c8 => (m_strings_IndexByte a1 c8).bind fun y9 => ifB (decide (y9 < 0)) (some (.ret false)) (some (.nxt ()))
def m_gleeref2_only (a0 : ByteArray) (a1 : ByteArray) : Option Bool :=
  (rangeI (a0.size : Int)).bind fun L10 => (rangeM (m_gleeref2_only_l1 a0 a1) 0 L10 ()).bind fun f7 => Flow.fin f7 fun u4 => some true
def m_gleeref2_Key (a0 : ByteArray) : Option Bool :=
  (m_gleeref2_in (a0.size : Int) 1 40).bind fun y1 => ifB y1 ((strS a0 0 1).bind fun c2 => (m_gleeref2_only c2 (ByteArray.mk [97, 98, 99, 100, 101, 102, 103, 104, 105, 106, 107, 108, 109, 110, 111, 112, 113, 114, 115, 116, 117, 118, 119, 120, 121, 122].toArray)).bind fun y3 => ifB y3 ((m_gleeref2_only a0 (ByteArray.mk [97, 98, 99, 100, 101, 102, 103, 104, 105, 106, 107, 108, 109, 110, 111, 112, 113, 114, 115, 116, 117, 118, 119, 120, 121, 122, 48, 49, 50, 51, 52, 53, 54, 55, 56, 57, 45, 95].toArray)).bind fun y4 => some y4) (some false)) (some false)
def m_gleeref2_ItemAt_1 (a0 : TItem) (a1_0 : ByteArray) : Option Bool :=
  some (a0.Key.toList == a1_0.toList)
def m_slices_IndexFunc_api_Item_api_Item__gleeref2_ItemAt_1_l1 (a1_c0_0 : ByteArray) (i1 : Nat) (x2 : TItem) (u4 : Unit) : Option (Flow Unit Int) :=
  (m_gleeref2_ItemAt_1 x2 a1_c0_0).bind fun y8 => ifB y8 (some (.ret (i1 : Int))) (some (.nxt ()))
def m_slices_IndexFunc_api_Item_api_Item__gleeref2_ItemAt_1 (a0 : (List TItem)) (a1_c0_0 : ByteArray) : Option Int :=
  (rangeM (m_slices_IndexFunc_api_Item_api_Item__gleeref2_ItemAt_1_l1 a1_c0_0) 0 a0 ()).bind fun f7 => Flow.fin f7 fun u4 => some (-1)
def m_gleeref2_ItemAt (a0 : (List TItem)) (a1 : ByteArray) : Option Int :=
  (m_slices_IndexFunc_api_Item_api_Item__gleeref2_ItemAt_1 a0 a1).bind fun y2 => some y2
def m_gleeref2_Rising_l1 (a0 : (List ByteArray)) (i1 : Nat) (x2 : ByteArray) (u4 : Unit) : Option (Flow Unit Int) :=
  (m_gleeref2_Key x2).bind fun y8 => ifB (!y8) (some (.ret 5)) ((ifB (decide ((i1 : Int) > 0)) ((getI a0 (w64 ((i1 : Int) - 1))).bind fun e12 => some (.inl (Op.bytesLess x2.toList e12.toList || x2.toList == e12.toList))) (some (.inl false)) : Option (Bool ⊕ (Flow Unit Int))).bind fun k11 => Sum.fin k11 fun u9 => ifB u9 (some (.ret 7)) (some (.nxt ())))
def m_gleeref2_Rising (a0 : (List ByteArray)) : Option Int :=
  (rangeM (m_gleeref2_Rising_l1 a0) 0 a0 ()).bind fun f7 => Flow.fin f7 fun u4 => some 0
def m_gleeref2_ItemsFault_l1 (a0 : (List TItem)) (i1 : Nat) (x2 : TItem) (u4 : Unit) : Option (Flow Unit Int) :=
  ((m_gleeref2_Key x2.Key).bind fun y12 => ifB (!y12) (some (.inl true)) ((m_gleeref2_Key x2.Places).bind fun y13 => some (.inl (!y13))) : Option (Bool ⊕ (Flow Unit Int))).bind fun k11 => Sum.fin k11 fun u9 => ifB u9 (some (.ret 5)) ((sliceI a0 0 (i1 : Int)).bind fun q14 => (m_gleeref2_ItemAt q14 x2.Key).bind fun y15 => ifB (decide (y15 ≥ 0)) (some (.ret 6)) ((m_gleeref2_in x2.Long 1 86400000).bind fun y16 => ifB (!y16) (some (.ret 1)) (ifB ((x2.Parts.length : Int) == 0) (some (.ret 8)) (ifB (decide ((x2.Parts.length : Int) > 12)) (some (.ret 2)) ((m_gleeref2_Rising x2.Parts).bind fun y17 => ifB (y17 != 0) (some (.ret y17)) (some (.nxt ())))))))
def m_gleeref2_ItemsFault (a0 : (List TItem)) : Option Int :=
  ifB (decide ((a0.length : Int) > 60)) (some 2) ((rangeM (m_gleeref2_ItemsFault_l1 a0) 0 a0 ()).bind fun f7 => Flow.fin f7 fun u4 => some 0)
def m_gleeref2_ProgramFault (a0 : TProgram) : Option Int :=
  (m_gleeref2_ItemsFault a0.Items).bind fun y2 => ifB (y2 != 0) (some y2) (((m_gleeref2_in a0.Change 0 86400000).bind fun y6 => ifB (!y6) (some (.inl true)) ((m_gleeref2_in a0.Clap 0 86400000).bind fun y7 => ifB (!y7) (some (.inl true)) ((m_gleeref2_in a0.Break 0 86400000).bind fun y8 => ifB (!y8) (some (.inl true)) ((m_gleeref2_in a0.Half (-1) (max (-1) (w64 ((a0.Items.length : Int) - 2)))).bind fun y9 => some (.inl (!y9))))) : Option (Bool ⊕ Int)).bind fun k5 => Sum.fin k5 fun u3 => ifB u3 (some 1) (some 0))
def m_gleelaw2_when (a0 : Bool) (a1 : Int) : Option Int :=
  ifB a0 (some a1) (some 0)
def m_gleelaw2_errs_l1  (i1 : Nat) (x2 : Int) (u4 : Unit) : Option (Flow Unit Int) :=
  ifB (x2 != 0) (some (.ret x2)) (some (.nxt ()))
def m_gleelaw2_errs (a0 : (List Int)) : Option Int :=
  (rangeM m_gleelaw2_errs_l1 0 a0 ()).bind fun f7 => Flow.fin f7 fun u4 => some 0
def m_gleeref2_between (a0 : TProgram) (a1 : Int) : Option Int :=
  ifB (a1 == a0.Half) (some a0.Break) ((getI a0.Items a1).bind fun e2 => (getI a0.Items (w64 (a1 + 1))).bind fun e3 => ifB (!(e2.Places.toList == e3.Places.toList)) (some a0.Change) (some a0.Clap))
def m_gleeref2_TimedOf_l1 (a0 : TProgram) (i2 : Nat) (x3 : TItem) (u6 : (Int × (List TTimed))) : Option (Flow (Int × (List TTimed)) (List TTimed)) :=
  (appM 32 u6.2 [(TTimed.mk x3.Key (TWindow.mk u6.1 (w64 (u6.1 + x3.Long))))]).bind fun q13 => ifB (decide ((w64 ((i2 : Int) + 1)) < (a0.Items.length : Int))) ((m_gleeref2_between a0 (i2 : Int)).bind fun y15 => some (.nxt (w64 ((w64 (u6.1 + x3.Long)) + y15), q13))) (some (.nxt (w64 (u6.1 + x3.Long), q13)))
def m_gleeref2_TimedOf (a0 : TProgram) (a1 : Int) : Option (List TTimed) :=
  (rangeM (m_gleeref2_TimedOf_l1 a0) 0 a0.Items (a1, [])).bind fun f9 => Flow.fin f9 fun u6 => some u6.2
def m_gleeref2_LongOfProgram (a0 : TProgram) : Option Int :=
  (m_gleeref2_TimedOf a0 0).bind fun y2 => ifB ((y2.length : Int) == 0) (some 0) ((getI y2 (w64 ((y2.length : Int) - 1))).bind fun e4 => some e4.Time.To)
def m_gleeref2_shared_1 (a0 : ByteArray) (a1_0 : (List TItem)) (a1_1 : Int) (a1_2 : Int) (a1_3 : Int) (a1_4 : Int) (a2_0 : Int) : Option Bool :=
  (getI a1_0 (w64 (a2_0 + 1))).bind fun e1 => (m_slices_Contains_string_string e1.Parts a0).bind fun y2 => some y2
def m_slices_IndexFunc_string_string__gleeref2_shared_1_l1 (a1_c0_0 : (List TItem)) (a1_c0_1 : Int) (a1_c0_2 : Int) (a1_c0_3 : Int) (a1_c0_4 : Int) (a1_c1_0 : Int) (i1 : Nat) (x2 : ByteArray) (u4 : Unit) : Option (Flow Unit Int) :=
  (m_gleeref2_shared_1 x2 a1_c0_0 a1_c0_1 a1_c0_2 a1_c0_3 a1_c0_4 a1_c1_0).bind fun y8 => ifB y8 (some (.ret (i1 : Int))) (some (.nxt ()))
def m_slices_IndexFunc_string_string__gleeref2_shared_1 (a0 : (List ByteArray)) (a1_c0_0 : (List TItem)) (a1_c0_1 : Int) (a1_c0_2 : Int) (a1_c0_3 : Int) (a1_c0_4 : Int) (a1_c1_0 : Int) : Option Int :=
  (rangeM (m_slices_IndexFunc_string_string__gleeref2_shared_1_l1 a1_c0_0 a1_c0_1 a1_c0_2 a1_c0_3 a1_c0_4 a1_c1_0) 0 a0 ()).bind fun f7 => Flow.fin f7 fun u4 => some (-1)
def m_slices_ContainsFunc_string_string__gleeref2_shared_1 (a0 : (List ByteArray)) (a1_c0_0 : (List TItem)) (a1_c0_1 : Int) (a1_c0_2 : Int) (a1_c0_3 : Int) (a1_c0_4 : Int) (a1_c1_0 : Int) : Option Bool :=
  (m_slices_IndexFunc_string_string__gleeref2_shared_1 a0 a1_c0_0 a1_c0_1 a1_c0_2 a1_c0_3 a1_c0_4 a1_c1_0).bind fun y1 => some (decide (y1 ≥ 0))
def m_gleeref2_shared_l1 (a0 : TProgram) (u3 : (Int × Int)) : Option (Flow (Int × Int) Int) :=
  ifB (decide ((w64 (u3.2 + 1)) < (a0.Items.length : Int))) ((ifB (u3.2 != a0.Half) ((getI a0.Items u3.2).bind fun e11 => (m_slices_ContainsFunc_string_string__gleeref2_shared_1 e11.Parts a0.Items a0.Change a0.Clap a0.Break a0.Half u3.2).bind fun y12 => some (.inl y12)) (some (.inl false)) : Option (Bool ⊕ (Flow (Int × Int) Int))).bind fun k10 => Sum.fin k10 fun u8 => ifB u8 (some (.nxt (w64 (u3.1 + 1), w64 (u3.2 + 1)))) (some (.nxt (u3.1, w64 (u3.2 + 1))))) (some (.brk (u3.1, u3.2)))
def m_gleeref2_shared (a0 : TProgram) : Option Int :=
  (loopM (m_gleeref2_shared_l1 a0) (0, 0)).bind fun f6 => Flow.fin f6 fun u3 => some u3.1
def m_cmp_isNaN_int (a0 : Int) : Option Bool :=
  some (a0 != a0)
def m_cmp_Compare_int (a0 : Int) (a1 : Int) : Option Int :=
  (m_cmp_isNaN_int a0).bind fun y1 => (m_cmp_isNaN_int a1).bind fun y2 => ifB y1 (ifB y2 (some 0) (some (-1))) (ifB y2 (some 1) (ifB (decide (a0 < a1)) (some (-1)) (ifB (decide (a0 > a1)) (some 1) (some 0))))
def m_slices_Compare_int_int_l1 (a1 : (List Int)) (i1 : Nat) (x2 : Int) (u4 : Unit) : Option (Flow Unit Int) :=
  ifB (decide ((i1 : Int) ≥ (a1.length : Int))) (some (.ret 1)) ((getI a1 (i1 : Int)).bind fun e8 => (m_cmp_Compare_int x2 e8).bind fun y9 => ifB (y9 != 0) (some (.ret y9)) (some (.nxt ())))
def m_slices_Compare_int_int (a0 : (List Int)) (a1 : (List Int)) : Option Int :=
  (rangeM (m_slices_Compare_int_int_l1 a1) 0 a0 ()).bind fun f7 => Flow.fin f7 fun u4 => ifB (decide ((a0.length : Int) < (a1.length : Int))) (some (-1)) (some 0)
def m_gleeref2_keysOf_l1  (i1 : Nat) (x2 : TItem) (u5 : (List ByteArray)) : Option (Flow (List ByteArray) (List ByteArray)) :=
  (appM 16 u5 [x2.Key]).bind fun q12 => some (.nxt q12)
def m_gleeref2_keysOf (a0 : (List TItem)) : Option (List ByteArray) :=
  (rangeM m_gleeref2_keysOf_l1 0 a0 []).bind fun f8 => Flow.fin f8 fun u5 => some u5
def m_gleeref2_BestOrder_1 (a0 : TProgram) (a1 : TProgram) : Option Bool :=
  ((m_gleeref2_LongOfProgram a0).bind fun y6 => (m_gleeref2_shared a0).bind fun y7 => (m_gleeref2_LongOfProgram a1).bind fun y9 => (m_gleeref2_shared a1).bind fun y10 => (m_slices_Compare_int_int [y6, y7] [y9, y10]).bind fun y12 => some (.inl y12) : Option (Int ⊕ Bool)).bind fun k5 => Sum.fin k5 fun u3 => ifB (u3 != 0) (some (decide (u3 < 0))) ((m_gleeref2_keysOf a0.Items).bind fun y21 => (m_gleeref2_keysOf a1.Items).bind fun y23 => (m_slices_Compare_string_string y21 y23).bind fun y25 => some (decide (y25 < 0)))
def m_gleeref2_BestOrder_2__gleeref2_BestOrder_1__self_l1 (a0 : (List TItem)) (a1_0 : (List TItem)) (a1_1 : Int) (a1_2 : Int) (a1_3 : Int) (a1_4 : Int) (self_ : ((List TItem) → (List TItem) → Int → Int → Int → Int → Bool → (List TItem) → Int → Int → Int → Int → Option (Bool × (List TItem) × Int × Int × Int × Int))) (i11 : Nat) (x12 : TItem) (u14 : (Bool × Int × Int × Int × Int × (List TItem))) : Option (Flow (Bool × Int × Int × Int × Int × (List TItem)) (Bool × (List TItem) × Int × Int × Int × Int)) :=
  (m_gleeref2_ItemAt a0 x12.Key).bind fun y20 => ifB (decide (y20 < 0)) ((m_slices_Clone_api_Item_api_Item a0).bind fun y21 => (appM 64 y21 [x12]).bind fun q25 => (self_ q25 a1_0 a1_1 a1_2 a1_3 a1_4 u14.1 u14.2.2.2.2.2 u14.2.1 u14.2.2.1 u14.2.2.2.1 u14.2.2.2.2.1).bind fun y28 => some (.nxt (y28.1, y28.2.2.1, y28.2.2.2.1, y28.2.2.2.2.1, y28.2.2.2.2.2, y28.2.1))) (some (.nxt (u14.1, u14.2.1, u14.2.2.1, u14.2.2.2.1, u14.2.2.2.2.1, u14.2.2.2.2.2)))
def m_gleeref2_BestOrder_2__gleeref2_BestOrder_1__self_b (self_ : ((List TItem) → (List TItem) → Int → Int → Int → Int → Bool → (List TItem) → Int → Int → Int → Int → Option (Bool × (List TItem) × Int × Int × Int × Int))) (a0 : (List TItem)) (a1_0 : (List TItem)) (a1_1 : Int) (a1_2 : Int) (a1_3 : Int) (a1_4 : Int) (a2_0 : Bool) (a4_0 : (List TItem)) (a4_1 : Int) (a4_2 : Int) (a4_3 : Int) (a4_4 : Int) : Option (Bool × (List TItem) × Int × Int × Int × Int) :=
  ifB ((a0.length : Int) == (a1_0.length : Int)) ((ifB (!a2_0) (some (.inl true)) ((m_gleeref2_BestOrder_1 (TProgram.mk a0 a1_1 a1_2 a1_3 a1_4) (TProgram.mk a4_0 a4_1 a4_2 a4_3 a4_4)).bind fun y5 => some (.inl y5)) : Option (Bool ⊕ (Bool × (List TItem) × Int × Int × Int × Int))).bind fun k4 => Sum.fin k4 fun u2 => (ifB u2 (some (.inl (true, a1_1, a1_2, a1_3, a1_4, a0))) (some (.inl (a2_0, a4_1, a4_2, a4_3, a4_4, a4_0))) : Option ((Bool × Int × Int × Int × Int × (List TItem)) ⊕ (Bool × (List TItem) × Int × Int × Int × Int))).bind fun k9 => Sum.fin k9 fun u6 => some (u6.1, u6.2.2.2.2.2, u6.2.1, u6.2.2.1, u6.2.2.2.1, u6.2.2.2.2.1)) ((rangeM (m_gleeref2_BestOrder_2__gleeref2_BestOrder_1__self_l1 a0 a1_0 a1_1 a1_2 a1_3 a1_4 self_) 0 a1_0 (a2_0, a4_1, a4_2, a4_3, a4_4, a4_0)).bind fun f17 => Flow.fin f17 fun u14 => some (u14.1, u14.2.2.2.2.2, u14.2.1, u14.2.2.1, u14.2.2.2.1, u14.2.2.2.2.1))
def m_gleeref2_BestOrder_2__gleeref2_BestOrder_1__self : Nat → (List TItem) → (List TItem) → Int → Int → Int → Int → Bool → (List TItem) → Int → Int → Int → Int → Option (Bool × (List TItem) × Int × Int × Int × Int)
  | 0 => fun _ _ _ _ _ _ _ _ _ _ _ _ => none
  | fu_ + 1 => m_gleeref2_BestOrder_2__gleeref2_BestOrder_1__self_b (m_gleeref2_BestOrder_2__gleeref2_BestOrder_1__self fu_)
def m_gleeref2_BestOrder (a0 : TProgram) : Option ((List ByteArray) × Int) :=
  (m_gleeref2_BestOrder_2__gleeref2_BestOrder_1__self FUEL [] a0.Items a0.Change a0.Clap a0.Break a0.Half false a0.Items a0.Change a0.Clap a0.Break a0.Half).bind fun y7 => (m_gleeref2_keysOf y7.2.1).bind fun y10 => (m_gleeref2_LongOfProgram (TProgram.mk y7.2.1 y7.2.2.1 y7.2.2.2.1 y7.2.2.2.2.1 y7.2.2.2.2.2)).bind fun y12 => some (y10, y12)
def m_gleeref2_HalfOf_l1 (a0 : TProgram) (u2 : (Int × Int × Int)) : Option (Flow (Int × Int × Int) (Int × Int)) :=
  ifB (decide ((w64 (u2.2.2 + 1)) < (a0.Items.length : Int))) ((some (.inl ()) : Option (Unit ⊕ (Flow (Int × Int × Int) (Int × Int)))).bind fun k10 => Sum.fin k10 fun u6 => (sliceI a0.Items 0 (w64 (u2.2.2 + 1))).bind fun q17 => (sliceI a0.Items (w64 (u2.2.2 + 1)) (a0.Items.length : Int)).bind fun q18 => (m_gleeref2_LongOfProgram (TProgram.mk q17 a0.Change a0.Clap a0.Break (-1))).bind fun y19 => (m_gleeref2_LongOfProgram (TProgram.mk q18 a0.Change a0.Clap a0.Break (-1))).bind fun y20 => (ifB (decide (u2.1 < 0)) (some (.inl true)) (some (.inl (decide ((max (w64 (y19 - y20)) (w64 (0 - (w64 (y19 - y20))))) < u2.2.1)))) : Option (Bool ⊕ (Flow (Int × Int × Int) (Int × Int)))).bind fun k23 => Sum.fin k23 fun u21 => ifB u21 (some (.nxt (u2.2.2, max (w64 (y19 - y20)) (w64 (0 - (w64 (y19 - y20)))), w64 (u2.2.2 + 1)))) (some (.nxt (u2.1, u2.2.1, w64 (u2.2.2 + 1))))) (some (.brk (u2.1, u2.2.1, u2.2.2)))
def m_gleeref2_HalfOf (a0 : TProgram) : Option (Int × Int) :=
  (loopM (m_gleeref2_HalfOf_l1 a0) ((-1), 0, 0)).bind fun f5 => Flow.fin f5 fun u2 => some (u2.1, u2.2.1)
def m_slices_Equal_string_string_l1 (a1 : (List ByteArray)) (i1 : Nat) (x2 : ByteArray) (u4 : Unit) : Option (Flow Unit Bool) :=
  (getI a1 (i1 : Int)).bind fun e8 => ifB (!(x2.toList == e8.toList)) (some (.ret false)) (some (.nxt ()))
def m_slices_Equal_string_string (a0 : (List ByteArray)) (a1 : (List ByteArray)) : Option Bool :=
  ifB ((a0.length : Int) != (a1.length : Int)) (some false) ((rangeM (m_slices_Equal_string_string_l1 a1) 0 a0 ()).bind fun f7 => Flow.fin f7 fun u4 => some true)
def m_gleemake_Stream_Order_l2 (a0_0 : (List Int)) (u14 : (Int × Int × (List Int))) : Option (Flow (Int × Int × (List Int)) ((List Int) × Int)) :=
  ifB (decide (u14.1 > 0)) ((m_gleemake_Stream_Next a0_0 u14.2.1 (w64 (u14.1 + 1))).bind fun y19 => (getI u14.2.2 y19.1).bind fun e20 => (getI u14.2.2 u14.1).bind fun e21 => (getI u14.2.2 u14.1).bind fun e22 => (getI (u14.2.2.set u14.1.toNat e20) y19.1).bind fun e23 => some (.nxt (w64 (u14.1 - 1), y19.2, ((u14.2.2.set u14.1.toNat e20).set y19.1.toNat e21)))) (some (.brk (u14.1, u14.2.1, u14.2.2)))
def m_gleemake_Stream_Order_l1  (i1 : Nat) (x2 : Nat) (u5 : (List Int)) : Option (Flow (List Int) ((List Int) × Int)) :=
  (appM 8 u5 [(i1 : Int)]).bind fun q11 => some (.nxt q11)
def m_gleemake_Stream_Order (a0_0 : (List Int)) (a0_1 : Int) (a1 : Int) : Option ((List Int) × Int) :=
  (rangeI a1).bind fun L26 => (rangeM m_gleemake_Stream_Order_l1 0 L26 []).bind fun f8 => Flow.fin f8 fun u5 => (loopM (m_gleemake_Stream_Order_l2 a0_0) (w64 (a1 - 1), a0_1, u5)).bind fun f17 => Flow.fin f17 fun u14 => some (u14.2.2, u14.2.1)
def m_concert_itemAt_1 (a0 : TItem) (a1_0 : ByteArray) : Option Bool :=
  some (a0.Key.toList == a1_0.toList)
def m_slices_IndexFunc_api_Item_api_Item__concert_itemAt_1_l1 (a1_c0_0 : ByteArray) (i1 : Nat) (x2 : TItem) (u4 : Unit) : Option (Flow Unit Int) :=
  (m_concert_itemAt_1 x2 a1_c0_0).bind fun y8 => ifB y8 (some (.ret (i1 : Int))) (some (.nxt ()))
def m_slices_IndexFunc_api_Item_api_Item__concert_itemAt_1 (a0 : (List TItem)) (a1_c0_0 : ByteArray) : Option Int :=
  (rangeM (m_slices_IndexFunc_api_Item_api_Item__concert_itemAt_1_l1 a1_c0_0) 0 a0 ()).bind fun f7 => Flow.fin f7 fun u4 => some (-1)
def m_concert_itemAt (a0 : TProgram) (a1 : ByteArray) : Option Int :=
  (m_slices_IndexFunc_api_Item_api_Item__concert_itemAt_1 a0.Items a1).bind fun y3 => some y3
def m_concert_cloneItem (a0 : TItem) : Option TItem :=
  (m_slices_Clone_string_string a0.Parts).bind fun y3 => some (TItem.mk a0.Key a0.Places a0.Long y3)
def m_concert_Moved_l1 (a0 : TProgram) (a1 : (List ByteArray)) (i7 : Nat) (x8 : ByteArray) (u11 : (List TItem)) : Option (Flow (List TItem) (TProgram × Int)) :=
  (m_concert_itemAt a0 x8).bind fun y16 => ifB (decide (y16 < 0)) (some (.ret ((TProgram.mk [] 0 0 0 0), 8))) ((sliceI a1 0 (i7 : Int)).bind fun q18 => (m_slices_Contains_string_string q18 x8).bind fun y19 => ifB y19 (some (.ret ((TProgram.mk [] 0 0 0 0), 6))) ((getI a0.Items y16).bind fun e21 => (m_concert_cloneItem e21).bind fun y22 => (appM 64 u11 [y22]).bind fun q25 => some (.nxt q25)))
def m_concert_Moved (a0 : TProgram) (a1 : (List ByteArray)) : Option (TProgram × Int) :=
  (m_concert_CheckProgram a0).bind fun y3 => ifB (y3 != 0) (some ((TProgram.mk [] 0 0 0 0), y3)) (ifB ((a1.length : Int) != (a0.Items.length : Int)) (some ((TProgram.mk [] 0 0 0 0), 3)) ((rangeM (m_concert_Moved_l1 a0 a1) 0 a1 []).bind fun f14 => Flow.fin f14 fun u11 => some ((TProgram.mk u11 a0.Change a0.Clap a0.Break a0.Half), 0)))
def m_gleeref2_MovedProgram_l1 (a0 : TProgram) (a1 : (List ByteArray)) (i4 : Nat) (x5 : ByteArray) (u8 : (List TItem)) : Option (Flow (List TItem) (TProgram × Int)) :=
  (m_gleeref2_ItemAt a0.Items x5).bind fun y13 => ifB (decide (y13 < 0)) (some (.ret ((TProgram.mk [] 0 0 0 0), 8))) ((sliceI a1 0 (i4 : Int)).bind fun q15 => (m_slices_Contains_string_string q15 x5).bind fun y16 => ifB y16 (some (.ret ((TProgram.mk [] 0 0 0 0), 6))) ((getI a0.Items y13).bind fun e18 => (appM 64 u8 [e18]).bind fun q20 => some (.nxt q20)))
def m_gleeref2_MovedProgram (a0 : TProgram) (a1 : (List ByteArray)) : Option (TProgram × Int) :=
  ifB ((a1.length : Int) != (a0.Items.length : Int)) (some ((TProgram.mk [] 0 0 0 0), 3)) ((rangeM (m_gleeref2_MovedProgram_l1 a0 a1) 0 a1 []).bind fun f11 => Flow.fin f11 fun u8 => some ((TProgram.mk u8 a0.Change a0.Clap a0.Break a0.Half), 0))
def m_gleeref2_SameItem (a0 : TItem) (a1 : TItem) : Option Bool :=
  ifB (a0.Key.toList == a1.Key.toList) (ifB (a0.Places.toList == a1.Places.toList) (ifB (a0.Long == a1.Long) ((m_slices_Equal_string_string a0.Parts a1.Parts).bind fun y3 => some y3) (some false)) (some false)) (some false)
def m_slices_EqualFunc_api_Item_api_Item_api_Item_api_Item__gleeref2_SameItem_l1 (a1 : (List TItem)) (i1 : Nat) (x2 : TItem) (u4 : Unit) : Option (Flow Unit Bool) :=
  (getI a1 (i1 : Int)).bind fun e9 => (m_gleeref2_SameItem x2 e9).bind fun y11 => ifB (!y11) (some (.ret false)) (some (.nxt ()))
def m_slices_EqualFunc_api_Item_api_Item_api_Item_api_Item__gleeref2_SameItem (a0 : (List TItem)) (a1 : (List TItem)) : Option Bool :=
  ifB ((a0.length : Int) != (a1.length : Int)) (some false) ((rangeM (m_slices_EqualFunc_api_Item_api_Item_api_Item_api_Item__gleeref2_SameItem_l1 a1) 0 a0 ()).bind fun f7 => Flow.fin f7 fun u4 => some true)
def m_gleeref2_SameProgram (a0 : TProgram) (a1 : TProgram) : Option Bool :=
  ifB (a0.Change == a1.Change) (ifB (a0.Clap == a1.Clap) (ifB (a0.Break == a1.Break) (ifB (a0.Half == a1.Half) ((m_slices_EqualFunc_api_Item_api_Item_api_Item_api_Item__gleeref2_SameItem a0.Items a1.Items).bind fun y3 => some y3) (some false)) (some false)) (some false)) (some false)
def m_concert_Long (a0 : TProgram) : Option (Int × Int) :=
  (m_concert_CheckProgram a0).bind fun y2 => ifB (y2 != 0) (some (0, y2)) ((m_concert_begins a0).bind fun y3 => some (y3.2, 0))
def m_gleelaw2_sung  : Option Bool :=
  (m_concert_Long (TProgram.mk [(TItem.mk (ByteArray.mk [97].toArray) (ByteArray.mk [112].toArray) 7 [(ByteArray.mk [97, 108, 116, 111].toArray)])] 0 0 0 (-1))).bind fun y3 => ifB (y3.2 == 0) (some (y3.1 == 7)) (some false)
def m_gleelaw2_ConcertsOrdered_l1 (y2 : (TProgram × Int)) (i33 : Nat) (x34 : Int) (u37 : (List ByteArray)) : Option (Flow (List ByteArray) Bool) :=
  (getI y2.1.Items x34).bind fun e42 => (appM 16 u37 [e42.Key]).bind fun q44 => some (.nxt q44)
def m_gleelaw2_ConcertsOrdered_l2 (y2 : (TProgram × Int)) (i94 : Nat) (x95 : Int) (u98 : (List ByteArray)) : Option (Flow (List ByteArray) Bool) :=
  (getI y2.1.Items x95).bind fun e103 => (appM 16 u98 [e103.Key]).bind fun q105 => some (.nxt q105)
def m_gleelaw2_ConcertsOrdered (a0 : (List Int)) : Option Bool :=
  (m_gleemake_Stream_AProgram a0 0 5).bind fun y2 => (m_concert_Order y2.1).bind fun y6 => (m_concert_Half y2.1).bind fun y8 => (m_gleeref2_ProgramFault y2.1).bind fun y9 => (m_gleelaw2_when (decide ((y2.1.Items.length : Int) > 7)) 2).bind fun y10 => (m_gleelaw2_errs [y9, y10]).bind fun y12 => (m_gleelaw2_when (decide ((y2.1.Items.length : Int) < 2)) 8).bind fun y13 => (m_gleelaw2_errs [y9, y13]).bind fun y15 => (ifB (y12 == 0) ((m_gleeref2_BestOrder y2.1).bind fun y20 => some (.inl (y20.2, y20.1))) (some (.inl (0, []))) : Option ((Int × (List ByteArray)) ⊕ Bool)).bind fun k19 => Sum.fin k19 fun u16 => (ifB (y15 == 0) ((m_gleeref2_HalfOf y2.1).bind fun y26 => some (.inl (y26.1, y26.2))) (some (.inl (0, 0))) : Option ((Int × Int) ⊕ Bool)).bind fun k25 => Sum.fin k25 fun u23 => (ifB (y6.2.2 != y12) (some (.inl true)) ((m_slices_Equal_string_string y6.1 u16.2).bind fun y30 => ifB (!y30) (some (.inl true)) (ifB (y6.2.1 != u16.1) (some (.inl true)) (ifB (y8.2.2 != y15) (some (.inl true)) (ifB (y8.1 != u23.1) (some (.inl true)) (some (.inl (y8.2.1 != u23.2))))))) : Option (Bool ⊕ Bool)).bind fun k29 => Sum.fin k29 fun u27 => ifB u27 (some false) ((m_gleemake_Stream_Order a0 y2.2 (y2.1.Items.length : Int)).bind fun y31 => (rangeM (m_gleelaw2_ConcertsOrdered_l1 y2) 0 y31.1 []).bind fun f40 => Flow.fin f40 fun u37 => (m_gleemake_Stream_Flip a0 y31.2 6).bind fun y47 => (ifB y47.1 ((m_gleemake_Stream_Some a0 y47.2 [(ByteArray.mk [97].toArray), (ByteArray.mk [122, 122].toArray)]).bind fun y53 => (appM 16 u37 [y53.1]).bind fun q55 => (m_gleemake_Stream_Range a0 y53.2 0 1).bind fun y57 => (sliceI q55 (min 1 y57.1) (q55.length : Int)).bind fun q58 => some (.inl q58)) (some (.inl u37)) : Option ((List ByteArray) ⊕ Bool)).bind fun k51 => Sum.fin k51 fun u48 => (m_concert_Moved y2.1 u48).bind fun y60 => (ifB (y9 == 0) ((m_gleeref2_MovedProgram y2.1 u48).bind fun y69 => some (.inl (y69.2, y69.1.Change, y69.1.Clap, y69.1.Break, y69.1.Half, y69.1.Items))) (some (.inl (y9, 0, 0, 0, 0, []))) : Option ((Int × Int × Int × Int × Int × (List TItem)) ⊕ Bool)).bind fun k68 => Sum.fin k68 fun u65 => ifB (y60.2 == u65.1) ((m_gleeref2_SameProgram y60.1 (TProgram.mk u65.2.2.2.2.2 u65.2.1 u65.2.2.1 u65.2.2.2.1 u65.2.2.2.2.1)).bind fun y73 => ifB y73 (m_gleelaw2_sung.bind fun y74 => some y74) (some false)) (some false))
end
end Go.G
