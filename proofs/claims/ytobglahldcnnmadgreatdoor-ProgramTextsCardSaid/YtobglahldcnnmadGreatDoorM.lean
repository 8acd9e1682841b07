/- The models. Written by program. -/
import Derived.Test.YtobglahldcnnmadGreatDoorXM
namespace Go.G
open Go Go.J
set_option linter.unusedVariables false
noncomputable section
structure Tgleemake_Stream where
  L : (List Int)
  at_ : Int
  deriving DecidableEq, Inhabited
structure TItem where
  Key : ByteArray
  Places : ByteArray
  Long : Int
  Parts : (List ByteArray)
  deriving DecidableEq, Inhabited
structure TProgram where
  Items : (List TItem)
  Change : Int
  Clap : Int
  Break : Int
  Half : Int
  deriving DecidableEq, Inhabited
def m_gleemake_Below (a0 : Int) (a1 : Int) : Option Int :=
  ifB (decide (a1 < 1)) (some 0) ((remM a0 a1).bind fun z1 => ifB (decide (z1 < 0)) (some (w64 (z1 + a1))) (some z1))
def m_gleemake_Stream_Next (a0_0 : (List Int)) (a0_1 : Int) (a1 : Int) : Option (Int × Int) :=
  ifB ((a0_0.length : Int) == 0) ((m_gleemake_Below (w64 ((w64 (a0_1 + 1)) * 7919)) a1).bind fun y1 => some (y1, w64 (a0_1 + 1))) ((remM (w64 ((w64 (a0_1 + 1)) - 1)) (a0_0.length : Int)).bind fun z2 => (quoM (w64 ((w64 (a0_1 + 1)) - 1)) (a0_0.length : Int)).bind fun z3 => (getI a0_0 z2).bind fun e4 => (m_gleemake_Below e4 1073741824).bind fun y5 => (m_gleemake_Below (w64 (y5 + (w64 (z3 * (w64 (7919 + z2)))))) a1).bind fun y6 => some (y6, w64 (a0_1 + 1)))
def m_gleemake_Stream_Pick (a0_0 : (List Int)) (a0_1 : Int) (a1 : (List Int)) : Option (Int × Int) :=
  (m_gleemake_Stream_Next a0_0 a0_1 (a1.length : Int)).bind fun y1 => (getI a1 y1.1).bind fun e2 => some (e2, y1.2)
def m_gleemake_Stream_Flip (a0_0 : (List Int)) (a0_1 : Int) (a1 : Int) : Option (Bool × Int) :=
  (m_gleemake_Stream_Next a0_0 a0_1 a1).bind fun y1 => some (y1.1 == 0, y1.2)
def m_gleemake_Stream_Some (a0_0 : (List Int)) (a0_1 : Int) (a1 : (List ByteArray)) : Option (ByteArray × Int) :=
  (m_gleemake_Stream_Next a0_0 a0_1 (a1.length : Int)).bind fun y1 => (getI a1 y1.1).bind fun e2 => some (e2, y1.2)
def m_gleemake_Stream_RightProgram_l2 (a0_0 : (List Int)) (i27 : Nat) (x28 : ByteArray) (u31 : (Int × (List ByteArray))) : Option (Flow (Int × (List ByteArray)) (Flow (Int × (List TItem)) (TProgram × Int))) :=
  (m_gleemake_Stream_Flip a0_0 u31.1 2).bind fun y36 => ifB y36.1 ((appM 16 u31.2 [x28]).bind fun q38 => some (.nxt (y36.2, q38))) (some (.nxt (y36.2, u31.2)))
def m_gleemake_Stream_RightProgram_l1 (a0_0 : (List Int)) (i11 : Nat) (x12 : ByteArray) (u15 : (Int × (List TItem))) : Option (Flow (Int × (List TItem)) (TProgram × Int)) :=
  (m_gleemake_Stream_Flip a0_0 u15.1 6).bind fun y20 => ifB y20.1 (some (.nxt (y20.2, u15.2))) ((m_gleemake_Stream_Some a0_0 y20.2 [(ByteArray.mk [114, 111, 119, 115].toArray), (ByteArray.mk [114, 111, 119, 115].toArray), (ByteArray.mk [99, 105, 114, 99, 108, 101].toArray)]).bind fun y22 => (m_gleemake_Stream_Pick a0_0 y22.2 [50, 100, 100, 200]).bind fun y24 => (rangeM (m_gleemake_Stream_RightProgram_l2 a0_0) 0 [(ByteArray.mk [97, 108, 116, 111].toArray), (ByteArray.mk [98, 97, 115, 115].toArray), (ByteArray.mk [115, 111, 108, 105].toArray)] (y24.2, [])).bind fun f34 => Flow.fin f34 fun u31 => (ifB ((u31.2.length : Int) == 0) (some (.inl [(ByteArray.mk [97, 108, 116, 111].toArray)])) (some (.inl u31.2)) : Option ((List ByteArray) ⊕ (Flow (Int × (List TItem)) (TProgram × Int)))).bind fun k44 => Sum.fin k44 fun u41 => (appM 64 u15.2 [(TItem.mk x12 y22.1 y24.1 u41)]).bind fun q47 => some (.nxt (u31.1, q47)))
def m_gleemake_Stream_RightProgram (a0_0 : (List Int)) (a0_1 : Int) (a1 : Int) : Option (TProgram × Int) :=
  (m_gleemake_Stream_Pick a0_0 a0_1 [0, 30, 50]).bind fun y3 => (m_gleemake_Stream_Pick a0_0 y3.2 [0, 10, 30]).bind fun y5 => (m_gleemake_Stream_Pick a0_0 y5.2 [0, 100]).bind fun y7 => (sliceI [(ByteArray.mk [99].toArray), (ByteArray.mk [97].toArray), (ByteArray.mk [100].toArray), (ByteArray.mk [98].toArray), (ByteArray.mk [101].toArray)] 0 a1).bind fun q10 => (rangeM (m_gleemake_Stream_RightProgram_l1 a0_0) 0 q10 (y7.2, [])).bind fun f18 => Flow.fin f18 fun u15 => (ifB (decide ((u15.2.length : Int) > 1)) ((m_gleemake_Stream_Flip a0_0 u15.1 2).bind fun y54 => some (.inl (y54.1, y54.2))) (some (.inl (false, u15.1))) : Option ((Bool × Int) ⊕ (TProgram × Int))).bind fun k53 => Sum.fin k53 fun u51 => ifB u51.1 ((m_gleemake_Stream_Next a0_0 u51.2 (w64 ((u15.2.length : Int) - 1))).bind fun y55 => some ((TProgram.mk u15.2 y3.1 y5.1 y7.1 y55.1), y55.2)) (some ((TProgram.mk u15.2 y3.1 y5.1 y7.1 (-1)), u51.2))
def m_gleemake_Stream_Range (a0_0 : (List Int)) (a0_1 : Int) (a1 : Int) (a2 : Int) : Option (Int × Int) :=
  ifB (decide (a2 < a1)) (some (a1, a0_1)) ((m_gleemake_Stream_Next a0_0 a0_1 (w64 ((w64 (a2 - a1)) + 1))).bind fun y1 => some (w64 (a1 + y1.1), y1.2))
def m_gleemake_Stream_Odd (a0_0 : (List Int)) (a0_1 : Int) (a1 : Int) (a2 : Int) : Option (Int × Int) :=
  (m_gleemake_Stream_Flip a0_0 a0_1 12).bind fun y1 => ifB y1.1 ((m_gleemake_Stream_Pick a0_0 y1.2 [w64 (a1 - 1), w64 (a2 + 1), a1, a2, (-1099511627776), 1099511627776]).bind fun y3 => some (y3.1, y3.2)) ((m_gleemake_Stream_Range a0_0 y1.2 a1 a2).bind fun y4 => some (y4.1, y4.2))
def m_slices_Clone_string_string (a0 : (List ByteArray)) : Option (List ByteArray) :=
  (appM 16 ([] : List ByteArray) a0).bind fun q3 => some q3
def m_gleemake_Stream_AProgram (a0_0 : (List Int)) (a0_1 : Int) (a1 : Int) : Option (TProgram × Int) :=
  (m_gleemake_Stream_RightProgram a0_0 a0_1 a1).bind fun y2 => (m_gleemake_Stream_Flip a0_0 y2.2 12).bind fun y6 => ifB y6.1 ((m_gleemake_Stream_Next a0_0 y6.2 3).bind fun y7 => ifB (y7.1 == 0) ((m_gleemake_Stream_Odd a0_0 y7.2 (-1) 4).bind fun y8 => some ((TProgram.mk y2.1.Items y2.1.Change y2.1.Clap y2.1.Break y8.1), y8.2)) (ifB (y7.1 == 1) ((m_gleemake_Stream_Odd a0_0 y7.2 0 86400000).bind fun y9 => (m_gleemake_Stream_Odd a0_0 y9.2 0 86400000).bind fun y10 => (m_gleemake_Stream_Odd a0_0 y10.2 0 86400000).bind fun y11 => some ((TProgram.mk y2.1.Items y9.1 y10.1 y11.1 y2.1.Half), y11.2)) (ifB (decide ((y2.1.Items.length : Int) > 0)) ((m_gleemake_Stream_Next a0_0 y7.2 (y2.1.Items.length : Int)).bind fun y12 => (getI y2.1.Items y12.1).bind fun e13 => (m_gleemake_Stream_Some a0_0 y12.2 [e13.Key, ByteArray.empty, (ByteArray.mk [97].toArray)]).bind fun y15 => (m_gleemake_Stream_Odd a0_0 y15.2 1 86400000).bind fun y16 => (m_slices_Clone_string_string e13.Parts).bind fun y17 => (m_gleemake_Stream_Some a0_0 y16.2 [(ByteArray.mk [122, 122].toArray), ByteArray.empty, (ByteArray.mk [97, 108, 116, 111].toArray)]).bind fun y20 => (appM 16 y17 [y20.1]).bind fun q22 => some ((TProgram.mk (((y2.1.Items.set y12.1.toNat (TItem.mk y15.1 e13.Places e13.Long e13.Parts)).set y12.1.toNat (TItem.mk y15.1 e13.Places y16.1 e13.Parts)).set y12.1.toNat (TItem.mk y15.1 e13.Places y16.1 q22)) y2.1.Change y2.1.Clap y2.1.Break y2.1.Half), y20.2)) (some (y2.1, y7.2))))) (some (y2.1, y6.2))
def m_gleeref2_Numbers_l1  (i1 : Nat) (x2 : Int) (u5 : (List ByteArray)) : Option (Flow (List ByteArray) ByteArray) :=
  (m_strconv_Itoa x2).bind fun y10 => (appM 16 u5 [y10]).bind fun q12 => some (.nxt q12)
def m_gleeref2_Numbers (a0 : (List Int)) : Option ByteArray :=
  (rangeM m_gleeref2_Numbers_l1 0 a0 []).bind fun f8 => Flow.fin f8 fun u5 => (m_strings_Join u5 (ByteArray.mk [32].toArray)).bind fun y15 => some y15
def m_gleeref2_ProgramLines_l1  (i5 : Nat) (x6 : TItem) (u8 : ByteArray) : Option (Flow ByteArray ByteArray) :=
  (catM x6.Key (ByteArray.mk [32].toArray)).bind fun c13 => (catM c13 x6.Places).bind fun c14 => (catM c14 (ByteArray.mk [32].toArray)).bind fun c15 => (m_strconv_Itoa x6.Long).bind fun y16 => (catM c15 y16).bind fun c17 => (catM c17 (ByteArray.mk [32].toArray)).bind fun c18 => (m_strings_Join x6.Parts (ByteArray.mk [44].toArray)).bind fun y19 => (catM c18 y19).bind fun c20 => (catM c20 (ByteArray.mk [10].toArray)).bind fun c21 => (catM u8 c21).bind fun c22 => some (.nxt c22)
def m_gleeref2_ProgramLines (a0 : TProgram) : Option ByteArray :=
  (m_gleeref2_Numbers [a0.Change, a0.Clap, a0.Break, a0.Half]).bind fun y3 => (catM y3 (ByteArray.mk [10].toArray)).bind fun c4 => (rangeM m_gleeref2_ProgramLines_l1 0 a0.Items c4).bind fun f11 => Flow.fin f11 fun u8 => some u8
def m_gleemake_Stream_Changed (a0_0 : (List Int)) (a0_1 : Int) (a1 : ByteArray) (a2 : ByteArray) : Option (ByteArray × Int) :=
  (ifB (a1.toList == ByteArray.empty.toList) (some (.inl true)) (some (.inl (a2.toList == ByteArray.empty.toList))) : Option (Bool ⊕ (ByteArray × Int))).bind fun k3 => Sum.fin k3 fun u1 => ifB u1 (some (a2, a0_1)) ((m_gleemake_Stream_Next a0_0 a0_1 (a1.size : Int)).bind fun y4 => (m_gleemake_Stream_Next a0_0 y4.2 (a2.size : Int)).bind fun y5 => (strI a2 y5.1).bind fun c6 => (m_gleemake_Stream_Next a0_0 y5.2 3).bind fun y7 => ifB (y7.1 == 0) ((strS a1 0 y4.1).bind fun c8 => (catM c8 (Utf8.encode (IntKind.wrap .i32 c6))).bind fun c9 => (strS a1 (w64 (y4.1 + 1)) (a1.size : Int)).bind fun c10 => (catM c9 c10).bind fun c11 => some (c11, y7.2)) (ifB (y7.1 == 1) ((strS a1 0 y4.1).bind fun c12 => (catM c12 (Utf8.encode (IntKind.wrap .i32 c6))).bind fun c13 => (strS a1 y4.1 (a1.size : Int)).bind fun c14 => (catM c13 c14).bind fun c15 => some (c15, y7.2)) ((strS a1 0 y4.1).bind fun c16 => (strS a1 (w64 (y4.1 + 1)) (a1.size : Int)).bind fun c17 => (catM c16 c17).bind fun c18 => some (c18, y7.2))))
def m_gleemake_Stream_ProgramText_l1 (a0_0 : (List Int)) (i7 : Nat) (x8 : Nat) (u10 : (ByteArray × Int)) : Option (Flow (ByteArray × Int) (ByteArray × Int)) :=
  (m_gleemake_Stream_Changed a0_0 u10.2 u10.1 (ByteArray.mk [32, 10, 48, 45, 57, 44, 97, 98].toArray)).bind fun y14 => some (.nxt (y14.1, y14.2))
def m_gleemake_Stream_ProgramText (a0_0 : (List Int)) (a0_1 : Int) : Option (ByteArray × Int) :=
  (m_gleemake_Stream_RightProgram a0_0 a0_1 3).bind fun y1 => (m_gleeref2_ProgramLines y1.1).bind fun y4 => (m_gleemake_Stream_Pick a0_0 y1.2 [0, 0, 1, 2]).bind fun y6 => (rangeI y6.1).bind fun L15 => (rangeM (m_gleemake_Stream_ProgramText_l1 a0_0) 0 L15 (y4, y6.2)).bind fun f13 => Flow.fin f13 fun u10 => some (u10.1, u10.2)
def m_kit_IsKey (a0 : ByteArray) : Option Bool :=
  ifB (!(a0.toList == ByteArray.empty.toList)) (ifB (decide ((a0.size : Int) ≤ 40)) ((strI a0 0).bind fun c1 => (m_strings_IndexByte (ByteArray.mk [97, 98, 99, 100, 101, 102, 103, 104, 105, 106, 107, 108, 109, 110, 111, 112, 113, 114, 115, 116, 117, 118, 119, 120, 121, 122].toArray) c1).bind fun y2 => ifB (decide (y2 ≥ 0)) ((m_strings_Trim a0 (ByteArray.mk [97, 98, 99, 100, 101, 102, 103, 104, 105, 106, 107, 108, 109, 110, 111, 112, 113, 114, 115, 116, 117, 118, 119, 120, 121, 122, 48, 49, 50, 51, 52, 53, 54, 55, 56, 57, 45, 95].toArray)).bind fun y3 => some (y3.toList == ByteArray.empty.toList)) (some false)) (some false)) (some false)
def m_concert_CheckItems_1 (a0 : TItem) (a1_0 : ByteArray) (a1_1 : ByteArray) (a1_2 : Int) (a1_3 : (List ByteArray)) : Option Bool :=
  some (a0.Key.toList == a1_0.toList)
def m_slices_IndexFunc_api_Item_api_Item__concert_CheckItems_1_l1 (a1_c0_0 : ByteArray) (a1_c0_1 : ByteArray) (a1_c0_2 : Int) (a1_c0_3 : (List ByteArray)) (i1 : Nat) (x2 : TItem) (u4 : Unit) : Option (Flow Unit Int) :=
  (m_concert_CheckItems_1 x2 a1_c0_0 a1_c0_1 a1_c0_2 a1_c0_3).bind fun y8 => ifB y8 (some (.ret (i1 : Int))) (some (.nxt ()))
def m_slices_IndexFunc_api_Item_api_Item__concert_CheckItems_1 (a0 : (List TItem)) (a1_c0_0 : ByteArray) (a1_c0_1 : ByteArray) (a1_c0_2 : Int) (a1_c0_3 : (List ByteArray)) : Option Int :=
  (rangeM (m_slices_IndexFunc_api_Item_api_Item__concert_CheckItems_1_l1 a1_c0_0 a1_c0_1 a1_c0_2 a1_c0_3) 0 a0 ()).bind fun f7 => Flow.fin f7 fun u4 => some (-1)
def m_slices_ContainsFunc_api_Item_api_Item__concert_CheckItems_1 (a0 : (List TItem)) (a1_c0_0 : ByteArray) (a1_c0_1 : ByteArray) (a1_c0_2 : Int) (a1_c0_3 : (List ByteArray)) : Option Bool :=
  (m_slices_IndexFunc_api_Item_api_Item__concert_CheckItems_1 a0 a1_c0_0 a1_c0_1 a1_c0_2 a1_c0_3).bind fun y1 => some (decide (y1 ≥ 0))
def m_kit_Outside (a0 : Int) (a1 : Int) (a2 : Int) : Option Bool :=
  ifB (decide (a0 < a1)) (some true) (some (decide (a0 > a2)))
def m_concert_partsFault_l1 (a0 : (List ByteArray)) (i1 : Nat) (x2 : ByteArray) (u4 : Unit) : Option (Flow Unit Int) :=
  (m_kit_IsKey x2).bind fun y8 => ifB (!y8) (some (.ret 5)) ((ifB (decide ((i1 : Int) > 0)) ((getI a0 (w64 ((i1 : Int) - 1))).bind fun e12 => some (.inl (Op.bytesLess x2.toList e12.toList || x2.toList == e12.toList))) (some (.inl false)) : Option (Bool ⊕ (Flow Unit Int))).bind fun k11 => Sum.fin k11 fun u9 => ifB u9 (some (.ret 7)) (some (.nxt ())))
def m_concert_partsFault (a0 : (List ByteArray)) : Option Int :=
  ifB ((a0.length : Int) == 0) (some 8) (ifB (decide ((a0.length : Int) > 12)) (some 2) ((rangeM (m_concert_partsFault_l1 a0) 0 a0 ()).bind fun f7 => Flow.fin f7 fun u4 => some 0))
def m_concert_CheckItems_l1 (a0 : (List TItem)) (i1 : Nat) (x2 : TItem) (u4 : Unit) : Option (Flow Unit Int) :=
  ((m_kit_IsKey x2.Key).bind fun y12 => ifB (!y12) (some (.inl true)) ((m_kit_IsKey x2.Places).bind fun y13 => some (.inl (!y13))) : Option (Bool ⊕ (Flow Unit Int))).bind fun k11 => Sum.fin k11 fun u9 => ifB u9 (some (.ret 5)) ((sliceI a0 0 (i1 : Int)).bind fun q14 => (m_slices_ContainsFunc_api_Item_api_Item__concert_CheckItems_1 q14 x2.Key x2.Places x2.Long x2.Parts).bind fun y15 => ifB y15 (some (.ret 6)) ((m_kit_Outside x2.Long 1 86400000).bind fun y16 => ifB y16 (some (.ret 1)) ((m_concert_partsFault x2.Parts).bind fun y17 => ifB (y17 != 0) (some (.ret y17)) (some (.nxt ())))))
def m_concert_CheckItems (a0 : (List TItem)) : Option Int :=
  ifB (decide ((a0.length : Int) > 60)) (some 2) ((rangeM (m_concert_CheckItems_l1 a0) 0 a0 ()).bind fun f7 => Flow.fin f7 fun u4 => some 0)
def m_concert_CheckProgram (a0 : TProgram) : Option Int :=
  (m_concert_CheckItems a0.Items).bind fun y2 => ifB (y2 != 0) (some y2) (((m_kit_Outside a0.Change 0 86400000).bind fun y6 => ifB y6 (some (.inl true)) ((m_kit_Outside a0.Clap 0 86400000).bind fun y7 => ifB y7 (some (.inl true)) ((m_kit_Outside a0.Break 0 86400000).bind fun y8 => ifB y8 (some (.inl true)) ((m_kit_Outside a0.Half (-1) (max (-1) (w64 ((a0.Items.length : Int) - 2)))).bind fun y9 => some (.inl y9)))) : Option (Bool ⊕ Int)).bind fun k5 => Sum.fin k5 fun u3 => ifB u3 (some 1) (some 0))
def m_kit_Join (a0 : (List ByteArray)) : Option ByteArray :=
  (m_strings_Join a0 (ByteArray.mk [32].toArray)).bind fun y1 => (catM y1 (ByteArray.mk [10].toArray)).bind fun c2 => some c2
def m_concert_Text_l1  (i12 : Nat) (x13 : TItem) (u15 : ByteArray) : Option (Flow ByteArray (ByteArray × Int)) :=
  (m_strconv_Itoa x13.Long).bind fun y20 => (m_strings_Join x13.Parts (ByteArray.mk [44].toArray)).bind fun y21 => (m_kit_Join [x13.Key, x13.Places, y20, y21]).bind fun y23 => (m_bWriteString u15 y23).bind fun y24 => some (.nxt y24)
def m_concert_Text_l2  (i30 : Nat) (x31 : TItem) (u33 : ByteArray) : Option (Flow ByteArray (ByteArray × Int)) :=
  (m_strconv_Itoa x31.Long).bind fun y38 => (m_strings_Join x31.Parts (ByteArray.mk [44].toArray)).bind fun y39 => (m_kit_Join [x31.Key, x31.Places, y38, y39]).bind fun y41 => (m_bWriteString u33 y41).bind fun y42 => some (.nxt y42)
def m_concert_Text (a0 : TProgram) : Option (ByteArray × Int) :=
  (m_concert_CheckProgram a0).bind fun y2 => ifB (y2 != 0) (some (ByteArray.empty, y2)) ((m_strconv_Itoa a0.Change).bind fun y4 => (m_strconv_Itoa a0.Clap).bind fun y5 => (m_strconv_Itoa a0.Break).bind fun y6 => (m_strconv_Itoa a0.Half).bind fun y7 => (m_kit_Join [y4, y5, y6, y7]).bind fun y9 => (m_bWriteString ByteArray.empty y9).bind fun y10 => (rangeM m_concert_Text_l1 0 a0.Items y10).bind fun f18 => Flow.fin f18 fun u15 => ifB (decide ((u15.size : Int) > 200000)) (some (ByteArray.empty, 2)) (some (u15, 0)))
def m_gleeref2_in (a0 : Int) (a1 : Int) (a2 : Int) : Option Bool :=
  ifB (decide (a1 ≤ a0)) (some (decide (a0 ≤ a2))) (some false)
def m_gleeref2_only_l1 (a0 : ByteArray) (a1 : ByteArray) (i1 : Nat) (x2 : Nat) (u4 : Unit) : Option (Flow Unit Bool) :=
  (strI a0 (i1 : Int)).bind fun c8 => (m_strings_IndexByte a1 c8).bind fun y9 => ifB (decide (y9 < 0)) (some (.ret false)) (some (.nxt ()))
def m_gleeref2_only (a0 : ByteArray) (a1 : ByteArray) : Option Bool :=
  (rangeI (a0.size : Int)).bind fun L10 => (rangeM (m_gleeref2_only_l1 a0 a1) 0 L10 ()).bind fun f7 => Flow.fin f7 fun u4 => some true
def m_gleeref2_Key (a0 : ByteArray) : Option Bool :=
  (m_gleeref2_in (a0.size : Int) 1 40).bind fun y1 => ifB y1 ((strS a0 0 1).bind fun c2 => (m_gleeref2_only c2 (ByteArray.mk [97, 98, 99, 100, 101, 102, 103, 104, 105, 106, 107, 108, 109, 110, 111, 112, 113, 114, 115, 116, 117, 118, 119, 120, 121, 122].toArray)).bind fun y3 => ifB y3 ((m_gleeref2_only a0 (ByteArray.mk [97, 98, 99, 100, 101, 102, 103, 104, 105, 106, 107, 108, 109, 110, 111, 112, 113, 114, 115, 116, 117, 118, 119, 120, 121, 122, 48, 49, 50, 51, 52, 53, 54, 55, 56, 57, 45, 95].toArray)).bind fun y4 => some y4) (some false)) (some false)
def m_gleeref2_ItemAt_1 (a0 : TItem) (a1_0 : ByteArray) : Option Bool :=
  some (a0.Key.toList == a1_0.toList)
def m_slices_IndexFunc_api_Item_api_Item__gleeref2_ItemAt_1_l1 (a1_c0_0 : ByteArray) (i1 : Nat) (x2 : TItem) (u4 : Unit) : Option (Flow Unit Int) :=
  (m_gleeref2_ItemAt_1 x2 a1_c0_0).bind fun y8 => ifB y8 (some (.ret (i1 : Int))) (some (.nxt ()))
def m_slices_IndexFunc_api_Item_api_Item__gleeref2_ItemAt_1 (a0 : (List TItem)) (a1_c0_0 : ByteArray) : Option Int :=
  (rangeM (m_slices_IndexFunc_api_Item_api_Item__gleeref2_ItemAt_1_l1 a1_c0_0) 0 a0 ()).bind fun f7 => Flow.fin f7 fun u4 => some (-1)
def m_gleeref2_ItemAt (a0 : (List TItem)) (a1 : ByteArray) : Option Int :=
  (m_slices_IndexFunc_api_Item_api_Item__gleeref2_ItemAt_1 a0 a1).bind fun y2 => some y2
def m_gleeref2_Rising_l1 (a0 : (List ByteArray)) (i1 : Nat) (x2 : ByteArray) (u4 : Unit) : Option (Flow Unit Int) :=
  (m_gleeref2_Key x2).bind fun y8 => ifB (!y8) (some (.ret 5)) ((ifB (decide ((i1 : Int) > 0)) ((getI a0 (w64 ((i1 : Int) - 1))).bind fun e12 => some (.inl (Op.bytesLess x2.toList e12.toList || x2.toList == e12.toList))) (some (.inl false)) : Option (Bool ⊕ (Flow Unit Int))).bind fun k11 => Sum.fin k11 fun u9 => ifB u9 (some (.ret 7)) (some (.nxt ())))
def m_gleeref2_Rising (a0 : (List ByteArray)) : Option Int :=
  (rangeM (m_gleeref2_Rising_l1 a0) 0 a0 ()).bind fun f7 => Flow.fin f7 fun u4 => some 0
def m_gleeref2_ItemsFault_l1 (a0 : (List TItem)) (i1 : Nat) (x2 : TItem) (u4 : Unit) : Option (Flow Unit Int) :=
  ((m_gleeref2_Key x2.Key).bind fun y12 => ifB (!y12) (some (.inl true)) ((m_gleeref2_Key x2.Places).bind fun y13 => some (.inl (!y13))) : Option (Bool ⊕ (Flow Unit Int))).bind fun k11 => Sum.fin k11 fun u9 => ifB u9 (some (.ret 5)) ((sliceI a0 0 (i1 : Int)).bind fun q14 => (m_gleeref2_ItemAt q14 x2.Key).bind fun y15 => ifB (decide (y15 ≥ 0)) (some (.ret 6)) ((m_gleeref2_in x2.Long 1 86400000).bind fun y16 => ifB (!y16) (some (.ret 1)) (ifB ((x2.Parts.length : Int) == 0) (some (.ret 8)) (ifB (decide ((x2.Parts.length : Int) > 12)) (some (.ret 2)) ((m_gleeref2_Rising x2.Parts).bind fun y17 => ifB (y17 != 0) (some (.ret y17)) (some (.nxt ())))))))
def m_gleeref2_ItemsFault (a0 : (List TItem)) : Option Int :=
  ifB (decide ((a0.length : Int) > 60)) (some 2) ((rangeM (m_gleeref2_ItemsFault_l1 a0) 0 a0 ()).bind fun f7 => Flow.fin f7 fun u4 => some 0)
def m_gleeref2_ProgramFault (a0 : TProgram) : Option Int :=
  (m_gleeref2_ItemsFault a0.Items).bind fun y2 => ifB (y2 != 0) (some y2) (((m_gleeref2_in a0.Change 0 86400000).bind fun y6 => ifB (!y6) (some (.inl true)) ((m_gleeref2_in a0.Clap 0 86400000).bind fun y7 => ifB (!y7) (some (.inl true)) ((m_gleeref2_in a0.Break 0 86400000).bind fun y8 => ifB (!y8) (some (.inl true)) ((m_gleeref2_in a0.Half (-1) (max (-1) (w64 ((a0.Items.length : Int) - 2)))).bind fun y9 => some (.inl (!y9))))) : Option (Bool ⊕ Int)).bind fun k5 => Sum.fin k5 fun u3 => ifB u3 (some 1) (some 0))
def m_stringslite_HasSuffix (a0 : ByteArray) (a1 : ByteArray) : Option Bool :=
  ifB (decide ((a0.size : Int) ≥ (a1.size : Int))) ((strS a0 (w64 ((a0.size : Int) - (a1.size : Int))) (a0.size : Int)).bind fun c1 => some (c1.toList == a1.toList)) (some false)
def m_stringslite_CutSuffix (a0 : ByteArray) (a1 : ByteArray) : Option (ByteArray × Bool) :=
  (m_stringslite_HasSuffix a0 a1).bind fun y1 => ifB (!y1) (some (a0, false)) ((strS a0 0 (w64 ((a0.size : Int) - (a1.size : Int)))).bind fun c2 => some (c2, true))
def m_strings_CutSuffix (a0 : ByteArray) (a1 : ByteArray) : Option (ByteArray × Bool) :=
  (m_stringslite_CutSuffix a0 a1).bind fun y1 => some (y1.1, y1.2)
def m_kit_Lines (a0 : ByteArray) : Option ((List ByteArray) × Bool) :=
  ifB (a0.toList == ByteArray.empty.toList) (some ([], true)) ((m_strings_CutSuffix a0 (ByteArray.mk [10].toArray)).bind fun y2 => (m_strings_Split y2.1 (ByteArray.mk [10].toArray)).bind fun y3 => some (y3, y2.2))
def m_kit_Words_l1  (i3 : Nat) (x4 : ByteArray) (u6 : Unit) : Option (Flow Unit ((List ByteArray) × Bool)) :=
  ifB (x4.toList == ByteArray.empty.toList) (some (.ret ([], false))) (some (.nxt ()))
def m_kit_Words (a0 : ByteArray) : Option ((List ByteArray) × Bool) :=
  (m_strings_Split a0 (ByteArray.mk [32].toArray)).bind fun y1 => (rangeM m_kit_Words_l1 0 y1 ()).bind fun f9 => Flow.fin f9 fun u6 => some (y1, true)
def m_stringslite_HasPrefix (a0 : ByteArray) (a1 : ByteArray) : Option Bool :=
  ifB (decide ((a0.size : Int) ≥ (a1.size : Int))) ((strS a0 0 (a1.size : Int)).bind fun c1 => some (c1.toList == a1.toList)) (some false)
def m_stringslite_CutPrefix (a0 : ByteArray) (a1 : ByteArray) : Option (ByteArray × Bool) :=
  (m_stringslite_HasPrefix a0 a1).bind fun y1 => ifB (!y1) (some (a0, false)) ((strS a0 (a1.size : Int) (a0.size : Int)).bind fun c2 => some (c2, true))
def m_strings_CutPrefix (a0 : ByteArray) (a1 : ByteArray) : Option (ByteArray × Bool) :=
  (m_stringslite_CutPrefix a0 a1).bind fun y1 => some (y1.1, y1.2)
def m_kit_Number (a0 : ByteArray) (a1 : Int) : Option (Int × Bool) :=
  (m_strings_CutPrefix a0 (ByteArray.mk [45].toArray)).bind fun y1 => (ifB (y1.1.toList == ByteArray.empty.toList) (some (.inl true)) (ifB (decide ((y1.1.size : Int) > a1)) (some (.inl true)) ((m_strings_Trim y1.1 (ByteArray.mk [48, 49, 50, 51, 52, 53, 54, 55, 56, 57].toArray)).bind fun y5 => ifB (!(y5.toList == ByteArray.empty.toList)) (some (.inl true)) ((strI y1.1 0).bind fun c6 => ifB (c6 == 48) (ifB (decide ((y1.1.size : Int) > 1)) (some (.inl true)) (some (.inl y1.2))) (some (.inl false))))) : Option (Bool ⊕ (Int × Bool))).bind fun k4 => Sum.fin k4 fun u2 => ifB u2 (some (0, false)) ((m_strconv_Atoi y1.1).bind fun y7 => ifB y1.2 (some (w64 (0 - y7.1), true)) (some (y7.1, true)))
def m_kit_Numbers_l1  (i1 : Nat) (x2 : ByteArray) (u5 : (List Int)) : Option (Flow (List Int) ((List Int) × Bool)) :=
  (m_kit_Number x2 15).bind fun y10 => ifB (!y10.2) (some (.ret ([], false))) ((appM 8 u5 [y10.1]).bind fun q13 => some (.nxt q13))
def m_kit_Numbers (a0 : (List ByteArray)) : Option ((List Int) × Bool) :=
  (rangeM m_kit_Numbers_l1 0 a0 []).bind fun f8 => Flow.fin f8 fun u5 => some (u5, true)
def m_slices_Index_string_string_l1 (a1 : ByteArray) (i1 : Nat) (x2 : ByteArray) (u4 : Unit) : Option (Flow Unit Int) :=
  ifB (a1.toList == x2.toList) (some (.ret (i1 : Int))) (some (.nxt ()))
def m_slices_Index_string_string (a0 : (List ByteArray)) (a1 : ByteArray) : Option Int :=
  (rangeM (m_slices_Index_string_string_l1 a1) 0 a0 ()).bind fun f7 => Flow.fin f7 fun u4 => some (-1)
def m_slices_Contains_string_string (a0 : (List ByteArray)) (a1 : ByteArray) : Option Bool :=
  (m_slices_Index_string_string a0 a1).bind fun y1 => some (decide (y1 ≥ 0))
def m_concert_readLine (a0_0 : (List TItem)) (a0_1 : Int) (a0_2 : Int) (a0_3 : Int) (a0_4 : Int) (a1 : Bool) (a2 : ByteArray) : Option (Bool × (List TItem) × Int × Int × Int × Int) :=
  (m_kit_Words a2).bind fun y1 => (ifB (!y1.2) (some (.inl true)) (some (.inl ((y1.1.length : Int) != 4))) : Option (Bool ⊕ (Bool × (List TItem) × Int × Int × Int × Int))).bind fun k5 => Sum.fin k5 fun u3 => ifB u3 (some (false, a0_0, a0_1, a0_2, a0_3, a0_4)) (ifB a1 ((m_kit_Numbers y1.1).bind fun y6 => ifB (!y6.2) (some (false, a0_0, a0_1, a0_2, a0_3, a0_4)) ((getI y6.1 0).bind fun e8 => (getI y6.1 1).bind fun e9 => (getI y6.1 2).bind fun e10 => (getI y6.1 3).bind fun e11 => some (true, a0_0, e8, e9, e10, e11))) ((getI y1.1 2).bind fun e12 => (m_kit_Numbers [e12]).bind fun y14 => (getI y1.1 3).bind fun e16 => (m_strings_Split e16 (ByteArray.mk [44].toArray)).bind fun y17 => (ifB (!y14.2) (some (.inl true)) ((m_slices_Contains_string_string y17 ByteArray.empty).bind fun y22 => some (.inl y22)) : Option (Bool ⊕ (Bool × (List TItem) × Int × Int × Int × Int))).bind fun k21 => Sum.fin k21 fun u19 => ifB u19 (some (false, a0_0, a0_1, a0_2, a0_3, a0_4)) ((getI y1.1 0).bind fun e23 => (getI y1.1 1).bind fun e24 => (getI y14.1 0).bind fun e25 => (appM 64 a0_0 [(TItem.mk e23 e24 e25 y17)]).bind fun q27 => some (true, q27, a0_1, a0_2, a0_3, a0_4))))
def m_concert_Read_l1 (y3 : ((List ByteArray) × Bool)) (i7 : Nat) (x8 : ByteArray) (u11 : (Int × Int × Int × Int × (List TItem))) : Option (Flow (Int × Int × Int × Int × (List TItem)) (TProgram × Int × Int)) :=
  ((m_concert_readLine u11.2.2.2.2 u11.1 u11.2.1 u11.2.2.1 u11.2.2.2.1 ((i7 : Int) == 0) x8).bind fun y20 => ifB (!y20.1) (some (.inl (true, y20.2.2.1, y20.2.2.2.1, y20.2.2.2.2.1, y20.2.2.2.2.2, y20.2.1))) (ifB (!y3.2) (some (.inl ((i7 : Int) == (w64 ((y3.1.length : Int) - 1)), y20.2.2.1, y20.2.2.2.1, y20.2.2.2.2.1, y20.2.2.2.2.2, y20.2.1))) (some (.inl (false, y20.2.2.1, y20.2.2.2.1, y20.2.2.2.2.1, y20.2.2.2.2.2, y20.2.1)))) : Option ((Bool × Int × Int × Int × Int × (List TItem)) ⊕ (Flow (Int × Int × Int × Int × (List TItem)) (TProgram × Int × Int)))).bind fun k19 => Sum.fin k19 fun u16 => ifB u16.1 (some (.ret ((TProgram.mk [] 0 0 0 0), (i7 : Int), 9))) (some (.nxt (u16.2.1, u16.2.2.1, u16.2.2.2.1, u16.2.2.2.2.1, u16.2.2.2.2.2)))
def m_concert_Read (a0 : ByteArray) : Option (TProgram × Int × Int) :=
  ifB (decide ((a0.size : Int) > 200000)) (some ((TProgram.mk [] 0 0 0 0), 0, 2)) ((m_kit_Lines a0).bind fun y3 => ifB ((y3.1.length : Int) == 0) (some ((TProgram.mk [] 0 0 0 0), 0, 9)) ((rangeM (m_concert_Read_l1 y3) 0 y3.1 (0, 0, 0, 0, [])).bind fun f14 => Flow.fin f14 fun u11 => (m_concert_CheckProgram (TProgram.mk u11.2.2.2.2 u11.1 u11.2.1 u11.2.2.1 u11.2.2.2.1)).bind fun y25 => ifB (y25 != 0) (some ((TProgram.mk [] 0 0 0 0), 0, y25)) (some ((TProgram.mk u11.2.2.2.2 u11.1 u11.2.1 u11.2.2.1 u11.2.2.2.1), 0, 0))))
def m_stringslite_Index (a0 : ByteArray) (a1 : ByteArray) : Option Int :=
  (ifB ((a1.size : Int) == 0) (some (.inl true)) (some (.inl (a1.toList == a0.toList))) : Option (Bool ⊕ Int)).bind fun k3 => Sum.fin k3 fun u1 => ifB u1 (some 0) (ifB ((a1.size : Int) == 1) ((strI a1 0).bind fun c4 => (m_stringslite_IndexByte a0 c4).bind fun y5 => some y5) (ifB (decide ((a1.size : Int) ≥ (a0.size : Int))) (some (-1)) (none)))
def m_stringslite_Cut (a0 : ByteArray) (a1 : ByteArray) : Option (ByteArray × ByteArray × Bool) :=
  (m_stringslite_Index a0 a1).bind fun y1 => ifB (decide (y1 ≥ 0)) ((strS a0 0 y1).bind fun c2 => (strS a0 (w64 (y1 + (a1.size : Int))) (a0.size : Int)).bind fun c3 => some (c2, c3, true)) (some (a0, ByteArray.empty, false))
def m_strings_Cut (a0 : ByteArray) (a1 : ByteArray) : Option (ByteArray × ByteArray × Bool) :=
  (m_stringslite_Cut a0 a1).bind fun y1 => some (y1.1, y1.2.1, y1.2.2)
def m_gleeref2_Words (a0 : ByteArray) : Option ((List ByteArray) × Bool) :=
  (m_strings_Split a0 (ByteArray.mk [32].toArray)).bind fun y1 => (m_slices_Contains_string_string y1 ByteArray.empty).bind fun y3 => some (y1, !y3)
def m_stringslite_TrimPrefix (a0 : ByteArray) (a1 : ByteArray) : Option ByteArray :=
  (m_stringslite_HasPrefix a0 a1).bind fun y1 => ifB y1 ((strS a0 (a1.size : Int) (a0.size : Int)).bind fun c2 => some c2) (some a0)
def m_strings_TrimPrefix (a0 : ByteArray) (a1 : ByteArray) : Option ByteArray :=
  (m_stringslite_TrimPrefix a0 a1).bind fun y1 => some y1
def m_gleeref2_Number (a0 : ByteArray) (a1 : Int) : Option (Int × Bool) :=
  (m_strings_TrimPrefix a0 (ByteArray.mk [45].toArray)).bind fun y1 => (ifB (y1.toList == ByteArray.empty.toList) (some (.inl true)) (ifB (decide ((y1.size : Int) > a1)) (some (.inl true)) ((m_gleeref2_only y1 (ByteArray.mk [48, 49, 50, 51, 52, 53, 54, 55, 56, 57].toArray)).bind fun y5 => some (.inl (!y5)))) : Option (Bool ⊕ (Int × Bool))).bind fun k4 => Sum.fin k4 fun u2 => ifB u2 (some (0, false)) ((m_strconv_Atoi a0).bind fun y6 => (m_strconv_Itoa y6.1).bind fun y7 => some (y6.1, y7.toList == a0.toList))
def m_gleeref2_NumbersIn_l1 (a1 : Int) (i1 : Nat) (x2 : ByteArray) (u5 : (Bool × (List Int))) : Option (Flow (Bool × (List Int)) ((List Int) × Bool)) :=
  (m_gleeref2_Number x2 a1).bind fun y10 => (appM 8 u5.2 [y10.1]).bind fun q12 => ifB u5.1 (some (.nxt (y10.2, q12))) (some (.nxt (false, q12)))
def m_gleeref2_NumbersIn (a0 : (List ByteArray)) (a1 : Int) : Option ((List Int) × Bool) :=
  (rangeM (m_gleeref2_NumbersIn_l1 a1) 0 a0 (true, [])).bind fun f8 => Flow.fin f8 fun u5 => some (u5.2, u5.1)
def m_gleeref2_ProgramRead_1 (a0 : ByteArray) (a1_0 : Bool) (a2_0 : (List TItem)) (a2_1 : Int) (a2_2 : Int) (a2_3 : Int) (a2_4 : Int) : Option (Bool × Bool × (List TItem) × Int × Int × Int × Int) :=
  (m_gleeref2_Words a0).bind fun y1 => (ifB (!y1.2) (some (.inl true)) (some (.inl ((y1.1.length : Int) != 4))) : Option (Bool ⊕ (Bool × Bool × (List TItem) × Int × Int × Int × Int))).bind fun k5 => Sum.fin k5 fun u3 => ifB u3 (some (false, a1_0, a2_0, a2_1, a2_2, a2_3, a2_4)) (ifB a1_0 ((m_gleeref2_NumbersIn y1.1 15).bind fun y6 => (getI y6.1 0).bind fun e8 => (getI y6.1 1).bind fun e9 => (getI y6.1 2).bind fun e10 => (getI y6.1 3).bind fun e11 => some (y6.2, false, a2_0, e8, e9, e10, e11)) ((getI y1.1 2).bind fun e12 => (m_gleeref2_Number e12 15).bind fun y13 => ((getI y1.1 0).bind fun e19 => (getI y1.1 1).bind fun e20 => (getI y1.1 3).bind fun e21 => (m_strings_Split e21 (ByteArray.mk [44].toArray)).bind fun y22 => some (.inl (e19, e20, y22)) : Option ((ByteArray × ByteArray × (List ByteArray)) ⊕ (Bool × Bool × (List TItem) × Int × Int × Int × Int))).bind fun k18 => Sum.fin k18 fun u14 => (appM 64 a2_0 [(TItem.mk u14.1 u14.2.1 y13.1 u14.2.2)]).bind fun q30 => ifB y13.2 ((m_slices_Contains_string_string u14.2.2 ByteArray.empty).bind fun y33 => some (!y33, a1_0, q30, a2_1, a2_2, a2_3, a2_4)) (some (false, a1_0, q30, a2_1, a2_2, a2_3, a2_4))))
def m_gleeref2_Lines__gleeref2_ProgramRead_1_l1  (u1 : (ByteArray × Int × Bool × Int × Int × Int × Int × (List TItem))) : Option (Flow (ByteArray × Int × Bool × Int × Int × Int × Int × (List TItem)) (Int × Bool × Bool × (List TItem) × Int × Int × Int × Int)) :=
  ifB (!(u1.1.toList == ByteArray.empty.toList)) ((m_strings_Cut u1.1 (ByteArray.mk [10].toArray)).bind fun y5 => (ifB (!y5.2.2) (some (.inl (true, u1.2.2.1, u1.2.2.2.1, u1.2.2.2.2.1, u1.2.2.2.2.2.1, u1.2.2.2.2.2.2.1, u1.2.2.2.2.2.2.2))) ((m_gleeref2_ProgramRead_1 y5.1 u1.2.2.1 u1.2.2.2.2.2.2.2 u1.2.2.2.1 u1.2.2.2.2.1 u1.2.2.2.2.2.1 u1.2.2.2.2.2.2.1).bind fun y9 => some (.inl (!y9.1, y9.2.1, y9.2.2.2.1, y9.2.2.2.2.1, y9.2.2.2.2.2.1, y9.2.2.2.2.2.2, y9.2.2.1))) : Option ((Bool × Bool × Int × Int × Int × Int × (List TItem)) ⊕ (Flow (ByteArray × Int × Bool × Int × Int × Int × Int × (List TItem)) (Int × Bool × Bool × (List TItem) × Int × Int × Int × Int)))).bind fun k8 => Sum.fin k8 fun u6 => ifB u6.1 (some (.ret (u1.2.1, false, u6.2.1, u6.2.2.2.2.2.2, u6.2.2.1, u6.2.2.2.1, u6.2.2.2.2.1, u6.2.2.2.2.2.1))) (some (.nxt (y5.2.1, w64 (u1.2.1 + 1), u6.2.1, u6.2.2.1, u6.2.2.2.1, u6.2.2.2.2.1, u6.2.2.2.2.2.1, u6.2.2.2.2.2.2)))) (some (.brk (u1.1, u1.2.1, u1.2.2.1, u1.2.2.2.1, u1.2.2.2.2.1, u1.2.2.2.2.2.1, u1.2.2.2.2.2.2.1, u1.2.2.2.2.2.2.2)))
def m_gleeref2_Lines__gleeref2_ProgramRead_1 (a0 : ByteArray) (a1_c0_0 : Bool) (a1_c1_0 : (List TItem)) (a1_c1_1 : Int) (a1_c1_2 : Int) (a1_c1_3 : Int) (a1_c1_4 : Int) : Option (Int × Bool × Bool × (List TItem) × Int × Int × Int × Int) :=
  (loopM m_gleeref2_Lines__gleeref2_ProgramRead_1_l1 (a0, 0, a1_c0_0, a1_c1_1, a1_c1_2, a1_c1_3, a1_c1_4, a1_c1_0)).bind fun f4 => Flow.fin f4 fun u1 => some (0, true, u1.2.2.1, u1.2.2.2.2.2.2.2, u1.2.2.2.1, u1.2.2.2.2.1, u1.2.2.2.2.2.1, u1.2.2.2.2.2.2.1)
def m_gleeref2_ProgramRead (a0 : ByteArray) : Option (TProgram × Int × Int) :=
  ifB (decide ((a0.size : Int) > 200000)) (some ((TProgram.mk [] 0 0 0 0), 0, 2)) ((m_gleeref2_Lines__gleeref2_ProgramRead_1 a0 true [] 0 0 0 0).bind fun y6 => (ifB (!y6.2.1) (some (.inl true)) (some (.inl y6.2.2.1)) : Option (Bool ⊕ (TProgram × Int × Int))).bind fun k11 => Sum.fin k11 fun u9 => ifB u9 (some ((TProgram.mk [] 0 0 0 0), y6.1, 9)) ((m_gleeref2_ProgramFault (TProgram.mk y6.2.2.2.1 y6.2.2.2.2.1 y6.2.2.2.2.2.1 y6.2.2.2.2.2.2.1 y6.2.2.2.2.2.2.2)).bind fun y13 => ifB (y13 != 0) (some ((TProgram.mk [] 0 0 0 0), 0, y13)) (some ((TProgram.mk y6.2.2.2.1 y6.2.2.2.2.1 y6.2.2.2.2.2.1 y6.2.2.2.2.2.2.1 y6.2.2.2.2.2.2.2), 0, 0))))
def m_slices_Equal_string_string_l1 (a1 : (List ByteArray)) (i1 : Nat) (x2 : ByteArray) (u4 : Unit) : Option (Flow Unit Bool) :=
  (getI a1 (i1 : Int)).bind fun e8 => ifB (!(x2.toList == e8.toList)) (some (.ret false)) (some (.nxt ()))
def m_slices_Equal_string_string (a0 : (List ByteArray)) (a1 : (List ByteArray)) : Option Bool :=
  ifB ((a0.length : Int) != (a1.length : Int)) (some false) ((rangeM (m_slices_Equal_string_string_l1 a1) 0 a0 ()).bind fun f7 => Flow.fin f7 fun u4 => some true)
def m_gleeref2_SameItem (a0 : TItem) (a1 : TItem) : Option Bool :=
  ifB (a0.Key.toList == a1.Key.toList) (ifB (a0.Places.toList == a1.Places.toList) (ifB (a0.Long == a1.Long) ((m_slices_Equal_string_string a0.Parts a1.Parts).bind fun y3 => some y3) (some false)) (some false)) (some false)
def m_slices_EqualFunc_api_Item_api_Item_api_Item_api_Item__gleeref2_SameItem_l1 (a1 : (List TItem)) (i1 : Nat) (x2 : TItem) (u4 : Unit) : Option (Flow Unit Bool) :=
  (getI a1 (i1 : Int)).bind fun e9 => (m_gleeref2_SameItem x2 e9).bind fun y11 => ifB (!y11) (some (.ret false)) (some (.nxt ()))
def m_slices_EqualFunc_api_Item_api_Item_api_Item_api_Item__gleeref2_SameItem (a0 : (List TItem)) (a1 : (List TItem)) : Option Bool :=
  ifB ((a0.length : Int) != (a1.length : Int)) (some false) ((rangeM (m_slices_EqualFunc_api_Item_api_Item_api_Item_api_Item__gleeref2_SameItem_l1 a1) 0 a0 ()).bind fun f7 => Flow.fin f7 fun u4 => some true)
def m_gleeref2_SameProgram (a0 : TProgram) (a1 : TProgram) : Option Bool :=
  ifB (a0.Change == a1.Change) (ifB (a0.Clap == a1.Clap) (ifB (a0.Break == a1.Break) (ifB (a0.Half == a1.Half) ((m_slices_EqualFunc_api_Item_api_Item_api_Item_api_Item__gleeref2_SameItem a0.Items a1.Items).bind fun y3 => some y3) (some false)) (some false)) (some false)) (some false)
def m_concert_change (a0 : TProgram) (a1 : TItem) (a2 : TItem) : Option Int :=
  ifB (!(a1.Places.toList == a2.Places.toList)) (some a0.Change) (some a0.Clap)
def m_concert_behind (a0 : TProgram) (a1 : Int) : Option Int :=
  ifB (a1 == a0.Half) (some a0.Break) ((getI a0.Items a1).bind fun e2 => (getI a0.Items (w64 (a1 + 1))).bind fun e3 => (m_concert_change a0 e2 e3).bind fun y4 => some y4)
def m_concert_begins_l1 (a0 : TProgram) (i2 : Nat) (x3 : TItem) (u6 : (Int × (List Int))) : Option (Flow (Int × (List Int)) ((List Int) × Int)) :=
  (appM 8 u6.2 [u6.1]).bind fun q13 => ifB (decide ((w64 ((i2 : Int) + 1)) < (a0.Items.length : Int))) ((m_concert_behind a0 (i2 : Int)).bind fun y15 => some (.nxt (w64 ((w64 (u6.1 + x3.Long)) + y15), q13))) (some (.nxt (w64 (u6.1 + x3.Long), q13)))
def m_concert_begins (a0 : TProgram) : Option ((List Int) × Int) :=
  (rangeM (m_concert_begins_l1 a0) 0 a0.Items (0, [])).bind fun f9 => Flow.fin f9 fun u6 => some (u6.2, u6.1)
def m_concert_Long (a0 : TProgram) : Option (Int × Int) :=
  (m_concert_CheckProgram a0).bind fun y2 => ifB (y2 != 0) (some (0, y2)) ((m_concert_begins a0).bind fun y3 => some (y3.2, 0))
def m_gleelaw2_sung  : Option Bool :=
  (m_concert_Long (TProgram.mk [(TItem.mk (ByteArray.mk [97].toArray) (ByteArray.mk [112].toArray) 7 [(ByteArray.mk [97, 108, 116, 111].toArray)])] 0 0 0 (-1))).bind fun y3 => ifB (y3.2 == 0) (some (y3.1 == 7)) (some false)
def m_gleelaw2_ProgramTexts (a0 : (List Int)) : Option Bool :=
  (m_gleemake_Stream_AProgram a0 0 4).bind fun y2 => (m_gleemake_Stream_ProgramText a0 y2.2).bind fun y5 => (m_concert_Text y2.1).bind fun y7 => (m_gleeref2_ProgramFault y2.1).bind fun y8 => (ifB (y8 == 0) ((m_gleeref2_ProgramLines y2.1).bind fun y12 => some (.inl y12)) (some (.inl ByteArray.empty)) : Option (ByteArray ⊕ Bool)).bind fun k11 => Sum.fin k11 fun u9 => (m_concert_Read y5.1).bind fun y13 => (m_gleeref2_ProgramRead y5.1).bind fun y17 => ifB (y7.2 == y8) (ifB (y7.1.toList == u9.toList) ((m_gleeref2_SameProgram y13.1 y17.1).bind fun y21 => ifB y21 (ifB (y13.2.1 == y17.2.1) (ifB (y13.2.2 == y17.2.2) (m_gleelaw2_sung.bind fun y22 => some y22) (some false)) (some false)) (some false)) (some false)) (some false)
end
end Go.G
