/- The models. Written by program. -/
import Derived.Test.YtpllnghmnihjhaaDoorXM
namespace Go.G
open Go Go.J
noncomputable section
structure Tgleemake_Stream where
  L : (List Int)
  at_ : Int
  deriving DecidableEq, Inhabited
structure TItem where
  Key : ByteArray
  Places : ByteArray
  Long : Int
  Parts : (List ByteArray)
  deriving DecidableEq, Inhabited
structure TProgram where
  Items : (List TItem)
  Change : Int
  Clap : Int
  Break : Int
  Half : Int
  deriving DecidableEq, Inhabited
structure TWindow where
  From : Int
  To : Int
  deriving DecidableEq, Inhabited
structure TTimed where
  Key : ByteArray
  Time : TWindow
  deriving DecidableEq, Inhabited
structure Tconcert_again where
  key : ByteArray
  long_ : Int
  deriving DecidableEq, Inhabited
def m_gleemake_Below (a0 : Int) (a1 : Int) : Option Int :=
  ifB (decide (a1 < 1)) (some 0) ((remM a0 a1).bind fun z1 => ifB (decide (z1 < 0)) (some (w64 (z1 + a1))) (some z1))
def m_gleemake_Stream_Next (a0_0 : (List Int)) (a0_1 : Int) (a1 : Int) : Option (Int × Int) :=
  ifB ((a0_0.length : Int) == 0) ((m_gleemake_Below (w64 ((w64 (a0_1 + 1)) * 7919)) a1).bind fun y1 => some (y1, w64 (a0_1 + 1))) ((remM (w64 ((w64 (a0_1 + 1)) - 1)) (a0_0.length : Int)).bind fun z2 => (quoM (w64 ((w64 (a0_1 + 1)) - 1)) (a0_0.length : Int)).bind fun z3 => (getI a0_0 z2).bind fun e4 => (m_gleemake_Below e4 1073741824).bind fun y5 => (m_gleemake_Below (w64 (y5 + (w64 (z3 * (w64 (7919 + z2)))))) a1).bind fun y6 => some (y6, w64 (a0_1 + 1)))
def m_gleemake_Stream_Pick (a0_0 : (List Int)) (a0_1 : Int) (a1 : (List Int)) : Option (Int × Int) :=
  (m_gleemake_Stream_Next a0_0 a0_1 (a1.length : Int)).bind fun y1 => (getI a1 y1.1).bind fun e2 => some (e2, y1.2)
def m_gleemake_Stream_Flip (a0_0 : (List Int)) (a0_1 : Int) (a1 : Int) : Option (Bool × Int) :=
  (m_gleemake_Stream_Next a0_0 a0_1 a1).bind fun y1 => some (y1.1 == 0, y1.2)
def m_gleemake_Stream_Some (a0_0 : (List Int)) (a0_1 : Int) (a1 : (List ByteArray)) : Option (ByteArray × Int) :=
  (m_gleemake_Stream_Next a0_0 a0_1 (a1.length : Int)).bind fun y1 => (getI a1 y1.1).bind fun e2 => some (e2, y1.2)
def m_gleemake_Stream_RightProgram_l2 (a0_0 : (List Int)) (i27 : Nat) (x28 : ByteArray) (u31 : (Int × (List ByteArray))) : Option (Flow (Int × (List ByteArray)) (Flow (Int × (List TItem)) (TProgram × Int))) :=
  (m_gleemake_Stream_Flip a0_0 u31.1 2).bind fun y36 => ifB y36.1 ((appM 16 u31.2 [x28]).bind fun q38 => some (.nxt (y36.2, q38))) (some (.nxt (y36.2, u31.2)))
def m_gleemake_Stream_RightProgram_l1 (a0_0 : (List Int)) (i11 : Nat) (x12 : ByteArray) (u15 : (Int × (List TItem))) : Option (Flow (Int × (List TItem)) (TProgram × Int)) :=
  (m_gleemake_Stream_Flip a0_0 u15.1 6).bind fun y20 => ifB y20.1 (some (.nxt (y20.2, u15.2))) ((m_gleemake_Stream_Some a0_0 y20.2 [(ByteArray.mk [114, 111, 119, 115].toArray), (ByteArray.mk [114, 111, 119, 115].toArray), (ByteArray.mk [99, 105, 114, 99, 108, 101].toArray)]).bind fun y22 => (m_gleemake_Stream_Pick a0_0 y22.2 [50, 100, 100, 200]).bind fun y24 => (rangeM (m_gleemake_Stream_RightProgram_l2 a0_0) 0 [(ByteArray.mk [97, 108, 116, 111].toArray), (ByteArray.mk [98, 97, 115, 115].toArray), (ByteArray.mk [115, 111, 108, 105].toArray)] (y24.2, [])).bind fun f34 => Flow.fin f34 fun u31 => (ifB ((u31.2.length : Int) == 0) (some (.inl [(ByteArray.mk [97, 108, 116, 111].toArray)])) (some (.inl u31.2)) : Option ((List ByteArray) ⊕ (Flow (Int × (List TItem)) (TProgram × Int)))).bind fun k44 => Sum.fin k44 fun u41 => (appM 64 u15.2 [(TItem.mk x12 y22.1 y24.1 u41)]).bind fun q47 => some (.nxt (u31.1, q47)))
def m_gleemake_Stream_RightProgram (a0_0 : (List Int)) (a0_1 : Int) (a1 : Int) : Option (TProgram × Int) :=
  (m_gleemake_Stream_Pick a0_0 a0_1 [0, 30, 50]).bind fun y3 => (m_gleemake_Stream_Pick a0_0 y3.2 [0, 10, 30]).bind fun y5 => (m_gleemake_Stream_Pick a0_0 y5.2 [0, 100]).bind fun y7 => (sliceI [(ByteArray.mk [99].toArray), (ByteArray.mk [97].toArray), (ByteArray.mk [100].toArray), (ByteArray.mk [98].toArray), (ByteArray.mk [101].toArray)] 0 a1).bind fun q10 => (rangeM (m_gleemake_Stream_RightProgram_l1 a0_0) 0 q10 (y7.2, [])).bind fun f18 => Flow.fin f18 fun u15 => (ifB (decide ((u15.2.length : Int) > 1)) ((m_gleemake_Stream_Flip a0_0 u15.1 2).bind fun y54 => some (.inl (y54.1, y54.2))) (some (.inl (false, u15.1))) : Option ((Bool × Int) ⊕ (TProgram × Int))).bind fun k53 => Sum.fin k53 fun u51 => ifB u51.1 ((m_gleemake_Stream_Next a0_0 u51.2 (w64 ((u15.2.length : Int) - 1))).bind fun y55 => some ((TProgram.mk u15.2 y3.1 y5.1 y7.1 y55.1), y55.2)) (some ((TProgram.mk u15.2 y3.1 y5.1 y7.1 (-1)), u51.2))
def m_gleemake_Stream_Range (a0_0 : (List Int)) (a0_1 : Int) (a1 : Int) (a2 : Int) : Option (Int × Int) :=
  ifB (decide (a2 < a1)) (some (a1, a0_1)) ((m_gleemake_Stream_Next a0_0 a0_1 (w64 ((w64 (a2 - a1)) + 1))).bind fun y1 => some (w64 (a1 + y1.1), y1.2))
def m_gleemake_Stream_Odd (a0_0 : (List Int)) (a0_1 : Int) (a1 : Int) (a2 : Int) : Option (Int × Int) :=
  (m_gleemake_Stream_Flip a0_0 a0_1 12).bind fun y1 => ifB y1.1 ((m_gleemake_Stream_Pick a0_0 y1.2 [w64 (a1 - 1), w64 (a2 + 1), a1, a2, (-1099511627776), 1099511627776]).bind fun y3 => some (y3.1, y3.2)) ((m_gleemake_Stream_Range a0_0 y1.2 a1 a2).bind fun y4 => some (y4.1, y4.2))
def m_slices_Clone_string_string (a0 : (List ByteArray)) : Option (List ByteArray) :=
  (appM 16 ([] : List ByteArray) a0).bind fun q3 => some q3
def m_gleemake_Stream_AProgram (a0_0 : (List Int)) (a0_1 : Int) (a1 : Int) : Option (TProgram × Int) :=
  (m_gleemake_Stream_RightProgram a0_0 a0_1 a1).bind fun y2 => (m_gleemake_Stream_Flip a0_0 y2.2 12).bind fun y6 => ifB y6.1 ((m_gleemake_Stream_Next a0_0 y6.2 3).bind fun y7 => ifB (y7.1 == 0) ((m_gleemake_Stream_Odd a0_0 y7.2 (-1) 4).bind fun y8 => some ((TProgram.mk y2.1.Items y2.1.Change y2.1.Clap y2.1.Break y8.1), y8.2)) (ifB (y7.1 == 1) ((m_gleemake_Stream_Odd a0_0 y7.2 0 86400000).bind fun y9 => (m_gleemake_Stream_Odd a0_0 y9.2 0 86400000).bind fun y10 => (m_gleemake_Stream_Odd a0_0 y10.2 0 86400000).bind fun y11 => some ((TProgram.mk y2.1.Items y9.1 y10.1 y11.1 y2.1.Half), y11.2)) (ifB (decide ((y2.1.Items.length : Int) > 0)) ((m_gleemake_Stream_Next a0_0 y7.2 (y2.1.Items.length : Int)).bind fun y12 => (getI y2.1.Items y12.1).bind fun e13 => (m_gleemake_Stream_Some a0_0 y12.2 [e13.Key, ByteArray.empty, (ByteArray.mk [97].toArray)]).bind fun y15 => (m_gleemake_Stream_Odd a0_0 y15.2 1 86400000).bind fun y16 => (m_slices_Clone_string_string e13.Parts).bind fun y17 => (m_gleemake_Stream_Some a0_0 y16.2 [(ByteArray.mk [122, 122].toArray), ByteArray.empty, (ByteArray.mk [97, 108, 116, 111].toArray)]).bind fun y20 => (appM 16 y17 [y20.1]).bind fun q22 => some ((TProgram.mk (((y2.1.Items.set y12.1.toNat (TItem.mk y15.1 e13.Places e13.Long e13.Parts)).set y12.1.toNat (TItem.mk y15.1 e13.Places y16.1 e13.Parts)).set y12.1.toNat (TItem.mk y15.1 e13.Places y16.1 q22)) y2.1.Change y2.1.Clap y2.1.Break y2.1.Half), y20.2)) (some (y2.1, y7.2))))) (some (y2.1, y6.2))
def m_kit_IsKey (a0 : ByteArray) : Option Bool :=
  ifB (!(a0.toList == ByteArray.empty.toList)) (ifB (decide ((a0.size : Int) ≤ 40)) ((strI a0 0).bind fun c1 => (m_strings_IndexByte (ByteArray.mk [97, 98, 99, 100, 101, 102, 103, 104, 105, 106, 107, 108, 109, 110, 111, 112, 113, 114, 115, 116, 117, 118, 119, 120, 121, 122].toArray) c1).bind fun y2 => ifB (decide (y2 ≥ 0)) ((m_strings_Trim a0 (ByteArray.mk [97, 98, 99, 100, 101, 102, 103, 104, 105, 106, 107, 108, 109, 110, 111, 112, 113, 114, 115, 116, 117, 118, 119, 120, 121, 122, 48, 49, 50, 51, 52, 53, 54, 55, 56, 57, 45, 95].toArray)).bind fun y3 => some (y3.toList == ByteArray.empty.toList)) (some false)) (some false)) (some false)
def m_concert_CheckItems_1 (a0 : TItem) (a1_0 : ByteArray) (a1_1 : ByteArray) (a1_2 : Int) (a1_3 : (List ByteArray)) : Option Bool :=
  some (a0.Key.toList == a1_0.toList)
def m_slices_IndexFunc_api_Item_api_Item__concert_CheckItems_1_l1 (a1_c0_0 : ByteArray) (a1_c0_1 : ByteArray) (a1_c0_2 : Int) (a1_c0_3 : (List ByteArray)) (i1 : Nat) (x2 : TItem) (u4 : Unit) : Option (Flow Unit Int) :=
  (m_concert_CheckItems_1 x2 a1_c0_0 a1_c0_1 a1_c0_2 a1_c0_3).bind fun y8 => ifB y8 (some (.ret (i1 : Int))) (some (.nxt ()))
def m_slices_IndexFunc_api_Item_api_Item__concert_CheckItems_1 (a0 : (List TItem)) (a1_c0_0 : ByteArray) (a1_c0_1 : ByteArray) (a1_c0_2 : Int) (a1_c0_3 : (List ByteArray)) : Option Int :=
  (rangeM (m_slices_IndexFunc_api_Item_api_Item__concert_CheckItems_1_l1 a1_c0_0 a1_c0_1 a1_c0_2 a1_c0_3) 0 a0 ()).bind fun f7 => Flow.fin f7 fun u4 => some (-1)
def m_slices_ContainsFunc_api_Item_api_Item__concert_CheckItems_1 (a0 : (List TItem)) (a1_c0_0 : ByteArray) (a1_c0_1 : ByteArray) (a1_c0_2 : Int) (a1_c0_3 : (List ByteArray)) : Option Bool :=
  (m_slices_IndexFunc_api_Item_api_Item__concert_CheckItems_1 a0 a1_c0_0 a1_c0_1 a1_c0_2 a1_c0_3).bind fun y1 => some (decide (y1 ≥ 0))
def m_kit_Outside (a0 : Int) (a1 : Int) (a2 : Int) : Option Bool :=
  ifB (decide (a0 < a1)) (some true) (some (decide (a0 > a2)))
def m_concert_partsFault_l1 (a0 : (List ByteArray)) (i1 : Nat) (x2 : ByteArray) (u4 : Unit) : Option (Flow Unit Int) :=
  (m_kit_IsKey x2).bind fun y8 => ifB (!y8) (some (.ret 5)) ((ifB (decide ((i1 : Int) > 0)) ((getI a0 (w64 ((i1 : Int) - 1))).bind fun e12 => some (.inl (Op.bytesLess x2.toList e12.toList || x2.toList == e12.toList))) (some (.inl false)) : Option (Bool ⊕ (Flow Unit Int))).bind fun k11 => Sum.fin k11 fun u9 => ifB u9 (some (.ret 7)) (some (.nxt ())))
def m_concert_partsFault (a0 : (List ByteArray)) : Option Int :=
  ifB ((a0.length : Int) == 0) (some 8) (ifB (decide ((a0.length : Int) > 12)) (some 2) ((rangeM (m_concert_partsFault_l1 a0) 0 a0 ()).bind fun f7 => Flow.fin f7 fun u4 => some 0))
def m_concert_CheckItems_l1 (a0 : (List TItem)) (i1 : Nat) (x2 : TItem) (u4 : Unit) : Option (Flow Unit Int) :=
  ((m_kit_IsKey x2.Key).bind fun y12 => ifB (!y12) (some (.inl true)) ((m_kit_IsKey x2.Places).bind fun y13 => some (.inl (!y13))) : Option (Bool ⊕ (Flow Unit Int))).bind fun k11 => Sum.fin k11 fun u9 => ifB u9 (some (.ret 5)) ((sliceI a0 0 (i1 : Int)).bind fun q14 => (m_slices_ContainsFunc_api_Item_api_Item__concert_CheckItems_1 q14 x2.Key x2.Places x2.Long x2.Parts).bind fun y15 => ifB y15 (some (.ret 6)) ((m_kit_Outside x2.Long 1 86400000).bind fun y16 => ifB y16 (some (.ret 1)) ((m_concert_partsFault x2.Parts).bind fun y17 => ifB (y17 != 0) (some (.ret y17)) (some (.nxt ())))))
def m_concert_CheckItems (a0 : (List TItem)) : Option Int :=
  ifB (decide ((a0.length : Int) > 60)) (some 2) ((rangeM (m_concert_CheckItems_l1 a0) 0 a0 ()).bind fun f7 => Flow.fin f7 fun u4 => some 0)
def m_concert_CheckProgram (a0 : TProgram) : Option Int :=
  (m_concert_CheckItems a0.Items).bind fun y2 => ifB (y2 != 0) (some y2) (((m_kit_Outside a0.Change 0 86400000).bind fun y6 => ifB y6 (some (.inl true)) ((m_kit_Outside a0.Clap 0 86400000).bind fun y7 => ifB y7 (some (.inl true)) ((m_kit_Outside a0.Break 0 86400000).bind fun y8 => ifB y8 (some (.inl true)) ((m_kit_Outside a0.Half (-1) (max (-1) (w64 ((a0.Items.length : Int) - 2)))).bind fun y9 => some (.inl y9)))) : Option (Bool ⊕ Int)).bind fun k5 => Sum.fin k5 fun u3 => ifB u3 (some 1) (some 0))
def m_concert_change (a0 : TProgram) (a1 : TItem) (a2 : TItem) : Option Int :=
  ifB (!(a1.Places.toList == a2.Places.toList)) (some a0.Change) (some a0.Clap)
def m_concert_behind (a0 : TProgram) (a1 : Int) : Option Int :=
  ifB (a1 == a0.Half) (some a0.Break) ((getI a0.Items a1).bind fun e2 => (getI a0.Items (w64 (a1 + 1))).bind fun e3 => (m_concert_change a0 e2 e3).bind fun y4 => some y4)
def m_concert_begins_l1 (a0 : TProgram) (i2 : Nat) (x3 : TItem) (u6 : (Int × (List Int))) : Option (Flow (Int × (List Int)) ((List Int) × Int)) :=
  (appM 8 u6.2 [u6.1]).bind fun q13 => ifB (decide ((w64 ((i2 : Int) + 1)) < (a0.Items.length : Int))) ((m_concert_behind a0 (i2 : Int)).bind fun y15 => some (.nxt (w64 ((w64 (u6.1 + x3.Long)) + y15), q13))) (some (.nxt (w64 (u6.1 + x3.Long), q13)))
def m_concert_begins (a0 : TProgram) : Option ((List Int) × Int) :=
  (rangeM (m_concert_begins_l1 a0) 0 a0.Items (0, [])).bind fun f9 => Flow.fin f9 fun u6 => some (u6.2, u6.1)
def m_concert_longOf (a0 : TProgram) (a1 : (List TItem)) : Option Int :=
  (m_concert_begins (TProgram.mk a1 a0.Change a0.Clap a0.Break (-1))).bind fun y2 => some y2.2
def m_cmp_isNaN_int (a0 : Int) : Option Bool :=
  some (a0 != a0)
def m_cmp_Compare_int (a0 : Int) (a1 : Int) : Option Int :=
  (m_cmp_isNaN_int a0).bind fun y1 => (m_cmp_isNaN_int a1).bind fun y2 => ifB y1 (ifB y2 (some 0) (some (-1))) (ifB y2 (some 1) (ifB (decide (a0 < a1)) (some (-1)) (ifB (decide (a0 > a1)) (some 1) (some 0))))
def m_slices_Compare_int_int_l1 (a1 : (List Int)) (i1 : Nat) (x2 : Int) (u4 : Unit) : Option (Flow Unit Int) :=
  ifB (decide ((i1 : Int) ≥ (a1.length : Int))) (some (.ret 1)) ((getI a1 (i1 : Int)).bind fun e8 => (m_cmp_Compare_int x2 e8).bind fun y9 => ifB (y9 != 0) (some (.ret y9)) (some (.nxt ())))
def m_slices_Compare_int_int (a0 : (List Int)) (a1 : (List Int)) : Option Int :=
  (rangeM (m_slices_Compare_int_int_l1 a1) 0 a0 ()).bind fun f7 => Flow.fin f7 fun u4 => ifB (decide ((a0.length : Int) < (a1.length : Int))) (some (-1)) (some 0)
def m_concert_Fitting_l2 (i8 : Nat) (i17 : Nat) (x18 : TItem) (u22 : ((List TItem) × (List Int))) : Option (Flow ((List TItem) × (List Int)) (Flow (Int × (List Int)) ((List ByteArray) × Int))) :=
  (shrM (i8 : Int) (i17 : Int)).bind fun z29 => ifB ((andI z29 1) == 1) ((appM 64 u22.1 [x18]).bind fun q31 => (appM 8 u22.2 [(i17 : Int)]).bind fun q35 => some (.nxt (q31, q35))) (some (.nxt (u22.1, u22.2)))
def m_concert_Fitting_l3 (a0 : TProgram) (i45 : Nat) (x46 : Int) (u49 : (List ByteArray)) : Option (Flow (List ByteArray) ((List ByteArray) × Int)) :=
  (getI a0.Items x46).bind fun e54 => (appM 16 u49 [e54.Key]).bind fun q56 => some (.nxt q56)
def m_concert_Fitting_l1 (a0 : TProgram) (a1 : Int) (i8 : Nat) (x9 : Nat) (u12 : (Int × (List Int))) : Option (Flow (Int × (List Int)) ((List ByteArray) × Int)) :=
  (rangeM (m_concert_Fitting_l2 i8) 0 a0.Items ([], [])).bind fun f25 => Flow.fin f25 fun u22 => (m_concert_longOf a0 u22.1).bind fun y39 => (ifB (decide (y39 ≤ a1)) (ifB (decide ((w64 ((u22.2.length : Int) - (u12.2.length : Int))) > 0)) (some (.inl true)) (ifB ((w64 ((u22.2.length : Int) - (u12.2.length : Int))) == 0) (ifB (decide (y39 > u12.1)) (some (.inl true)) (ifB (y39 == u12.1) ((m_slices_Compare_int_int u22.2 u12.2).bind fun y43 => some (.inl (decide (y43 < 0)))) (some (.inl false)))) (some (.inl false)))) (some (.inl false)) : Option (Bool ⊕ (Flow (Int × (List Int)) ((List ByteArray) × Int)))).bind fun k42 => Sum.fin k42 fun u40 => ifB u40 (some (.nxt (y39, u22.2))) (some (.nxt (u12.1, u12.2)))
def m_concert_Fitting (a0 : TProgram) (a1 : Int) : Option ((List ByteArray) × Int) :=
  (m_concert_CheckProgram a0).bind fun y2 => ifB (y2 != 0) (some ([], y2)) (ifB (decide ((a0.Items.length : Int) > 16)) (some ([], 2)) ((m_kit_Outside a1 0 5184000000).bind fun y5 => ifB y5 (some ([], 1)) ((shlM 1 (a0.Items.length : Int)).bind fun z7 => (rangeI z7).bind fun L59 => (rangeM (m_concert_Fitting_l1 a0 a1) 0 L59 (0, [])).bind fun f15 => Flow.fin f15 fun u12 => (rangeM (m_concert_Fitting_l3 a0) 0 u12.2 []).bind fun f52 => Flow.fin f52 fun u49 => some (u49, 0))))
def m_concert_Encores_1 (a0 : Tconcert_again) (a1 : Tconcert_again) : Option Int :=
  some (w64 (a1.long_ - a0.long_))
def m_slices_insertionSortCmpFunc_concert_again__concert_Encores_1_l2 (a1 : Int) (u5 : (Int × (List Tconcert_again))) : Option (Flow (Int × (List Tconcert_again)) (Flow (Int × (List Tconcert_again)) (List Tconcert_again))) :=
  ifB (decide (u5.1 > a1)) ((getI u5.2 u5.1).bind fun e9 => (getI u5.2 (w64 (u5.1 - 1))).bind fun e10 => (m_concert_Encores_1 e9 e10).bind fun y11 => ifB (decide (y11 < 0)) ((getI u5.2 (w64 (u5.1 - 1))).bind fun e12 => (getI u5.2 u5.1).bind fun e13 => (getI u5.2 u5.1).bind fun e14 => (getI (u5.2.set u5.1.toNat e12) (w64 (u5.1 - 1))).bind fun e15 => some (.nxt (w64 (u5.1 - 1), ((u5.2.set u5.1.toNat e12).set ((w64 (u5.1 - 1)).toNat) e13)))) (some (.brk (u5.1, u5.2)))) (some (.brk (u5.1, u5.2)))
def m_slices_insertionSortCmpFunc_concert_again__concert_Encores_1_l1 (a1 : Int) (a2 : Int) (u1 : (Int × (List Tconcert_again))) : Option (Flow (Int × (List Tconcert_again)) (List Tconcert_again)) :=
  ifB (decide (u1.1 < a2)) ((loopM (m_slices_insertionSortCmpFunc_concert_again__concert_Encores_1_l2 a1) (u1.1, u1.2)).bind fun f8 => Flow.fin f8 fun u5 => some (.nxt (w64 (u1.1 + 1), u5.2))) (some (.brk (u1.1, u1.2)))
def m_slices_insertionSortCmpFunc_concert_again__concert_Encores_1 (a0 : (List Tconcert_again)) (a1 : Int) (a2 : Int) : Option (List Tconcert_again) :=
  (loopM (m_slices_insertionSortCmpFunc_concert_again__concert_Encores_1_l1 a1 a2) (w64 (a1 + 1), a0)).bind fun f4 => Flow.fin f4 fun u1 => some u1.2
def m_slices_stableCmpFunc_concert_again__concert_Encores_1_l3 (a1 : Int) (u7 : (Int × Int × Int)) (u11 : Unit) : Option (Flow Unit (Flow (Int × Int × Int) (List Tconcert_again))) :=
  ifB (decide ((w64 (2 * u7.1)) ≤ a1)) (none) (some (.brk ()))
def m_slices_stableCmpFunc_concert_again__concert_Encores_1_l2 (a1 : Int) (u7 : (Int × Int × Int)) : Option (Flow (Int × Int × Int) (List Tconcert_again)) :=
  ifB (decide (u7.1 < a1)) ((loopM (m_slices_stableCmpFunc_concert_again__concert_Encores_1_l3 a1 u7) ()).bind fun f14 => Flow.fin f14 fun u11 => ifB (decide ((w64 (0 + u7.1)) < a1)) (none) (some (.nxt (w64 (u7.1 * 2), 0, w64 (2 * u7.1))))) (some (.brk (u7.1, u7.2.1, u7.2.2)))
def m_slices_stableCmpFunc_concert_again__concert_Encores_1_l1 (a1 : Int) (u1 : (Int × Int × (List Tconcert_again))) : Option (Flow (Int × Int × (List Tconcert_again)) (List Tconcert_again)) :=
  ifB (decide (u1.2.1 ≤ a1)) ((m_slices_insertionSortCmpFunc_concert_again__concert_Encores_1 u1.2.2 u1.1 u1.2.1).bind fun y5 => some (.nxt (u1.2.1, w64 (u1.2.1 + 20), y5))) (some (.brk (u1.1, u1.2.1, u1.2.2)))
def m_slices_stableCmpFunc_concert_again__concert_Encores_1 (a0 : (List Tconcert_again)) (a1 : Int) : Option (List Tconcert_again) :=
  (loopM (m_slices_stableCmpFunc_concert_again__concert_Encores_1_l1 a1) (0, 20, a0)).bind fun f4 => Flow.fin f4 fun u1 => (m_slices_insertionSortCmpFunc_concert_again__concert_Encores_1 u1.2.2 u1.1 a1).bind fun y6 => (loopM (m_slices_stableCmpFunc_concert_again__concert_Encores_1_l2 a1) (20, u1.1, u1.2.1)).bind fun f10 => Flow.fin f10 fun u7 => some y6
def m_slices_SortStableFunc_concert_again_concert_again__concert_Encores_1 (a0 : (List Tconcert_again)) : Option (List Tconcert_again) :=
  (m_slices_stableCmpFunc_concert_again__concert_Encores_1 a0 (a0.length : Int)).bind fun y1 => some y1
def m_concert_Encores_l2  (i25 : Nat) (x26 : Tconcert_again) (u29 : (List ByteArray)) : Option (Flow (List ByteArray) ((List ByteArray) × Int)) :=
  (appM 16 u29 [x26.key]).bind fun q36 => some (.nxt q36)
def m_concert_Encores_l1 (a0 : TProgram) (a1 : Int) (e7 : TItem) (i9 : Nat) (x10 : TItem) (u13 : (List Tconcert_again)) : Option (Flow (List Tconcert_again) ((List ByteArray) × Int)) :=
  (m_concert_change a0 e7 x10).bind fun y19 => ifB (decide ((w64 (y19 + x10.Long)) ≤ a1)) ((appM 24 u13 [(Tconcert_again.mk x10.Key (w64 (y19 + x10.Long)))]).bind fun q21 => some (.nxt q21)) (some (.nxt u13))
def m_concert_Encores (a0 : TProgram) (a1 : Int) : Option ((List ByteArray) × Int) :=
  (m_concert_CheckProgram a0).bind fun y2 => ifB (y2 != 0) (some ([], y2)) ((m_kit_Outside a1 0 86400000).bind fun y4 => ifB y4 (some ([], 1)) (ifB ((a0.Items.length : Int) == 0) (some ([], 8)) ((getI a0.Items (w64 ((a0.Items.length : Int) - 1))).bind fun e7 => (rangeM (m_concert_Encores_l1 a0 a1 e7) 0 a0.Items []).bind fun f16 => Flow.fin f16 fun u13 => (m_slices_SortStableFunc_concert_again_concert_again__concert_Encores_1 u13).bind fun y24 => (rangeM m_concert_Encores_l2 0 y24 []).bind fun f32 => Flow.fin f32 fun u29 => some (u29, 0))))
def m_gleeref2_in (a0 : Int) (a1 : Int) (a2 : Int) : Option Bool :=
  ifB (decide (a1 ≤ a0)) (some (decide (a0 ≤ a2))) (some false)
def m_gleeref2_only_l1 (a0 : ByteArray) (a1 : ByteArray) (i1 : Nat) (x2 : Nat) (u4 : Unit) : Option (Flow Unit Bool) :=
  (strI a0 (i1 : Int)).bind fun c8 => (m_strings_IndexByte a1 c8).bind fun y9 => ifB (decide (y9 < 0)) (some (.ret false)) (some (.nxt ()))
def m_gleeref2_only (a0 : ByteArray) (a1 : ByteArray) : Option Bool :=
  (rangeI (a0.size : Int)).bind fun L10 => (rangeM (m_gleeref2_only_l1 a0 a1) 0 L10 ()).bind fun f7 => Flow.fin f7 fun u4 => some true
def m_gleeref2_Key (a0 : ByteArray) : Option Bool :=
  (m_gleeref2_in (a0.size : Int) 1 40).bind fun y1 => ifB y1 ((strS a0 0 1).bind fun c2 => (m_gleeref2_only c2 (ByteArray.mk [97, 98, 99, 100, 101, 102, 103, 104, 105, 106, 107, 108, 109, 110, 111, 112, 113, 114, 115, 116, 117, 118, 119, 120, 121, 122].toArray)).bind fun y3 => ifB y3 ((m_gleeref2_only a0 (ByteArray.mk [97, 98, 99, 100, 101, 102, 103, 104, 105, 106, 107, 108, 109, 110, 111, 112, 113, 114, 115, 116, 117, 118, 119, 120, 121, 122, 48, 49, 50, 51, 52, 53, 54, 55, 56, 57, 45, 95].toArray)).bind fun y4 => some y4) (some false)) (some false)
def m_gleeref2_ItemAt_1 (a0 : TItem) (a1_0 : ByteArray) : Option Bool :=
  some (a0.Key.toList == a1_0.toList)
def m_slices_IndexFunc_api_Item_api_Item__gleeref2_ItemAt_1_l1 (a1_c0_0 : ByteArray) (i1 : Nat) (x2 : TItem) (u4 : Unit) : Option (Flow Unit Int) :=
  (m_gleeref2_ItemAt_1 x2 a1_c0_0).bind fun y8 => ifB y8 (some (.ret (i1 : Int))) (some (.nxt ()))
def m_slices_IndexFunc_api_Item_api_Item__gleeref2_ItemAt_1 (a0 : (List TItem)) (a1_c0_0 : ByteArray) : Option Int :=
  (rangeM (m_slices_IndexFunc_api_Item_api_Item__gleeref2_ItemAt_1_l1 a1_c0_0) 0 a0 ()).bind fun f7 => Flow.fin f7 fun u4 => some (-1)
def m_gleeref2_ItemAt (a0 : (List TItem)) (a1 : ByteArray) : Option Int :=
  (m_slices_IndexFunc_api_Item_api_Item__gleeref2_ItemAt_1 a0 a1).bind fun y2 => some y2
def m_gleeref2_Rising_l1 (a0 : (List ByteArray)) (i1 : Nat) (x2 : ByteArray) (u4 : Unit) : Option (Flow Unit Int) :=
  (m_gleeref2_Key x2).bind fun y8 => ifB (!y8) (some (.ret 5)) ((ifB (decide ((i1 : Int) > 0)) ((getI a0 (w64 ((i1 : Int) - 1))).bind fun e12 => some (.inl (Op.bytesLess x2.toList e12.toList || x2.toList == e12.toList))) (some (.inl false)) : Option (Bool ⊕ (Flow Unit Int))).bind fun k11 => Sum.fin k11 fun u9 => ifB u9 (some (.ret 7)) (some (.nxt ())))
def m_gleeref2_Rising (a0 : (List ByteArray)) : Option Int :=
  (rangeM (m_gleeref2_Rising_l1 a0) 0 a0 ()).bind fun f7 => Flow.fin f7 fun u4 => some 0
def m_gleeref2_ItemsFault_l1 (a0 : (List TItem)) (i1 : Nat) (x2 : TItem) (u4 : Unit) : Option (Flow Unit Int) :=
  ((m_gleeref2_Key x2.Key).bind fun y12 => ifB (!y12) (some (.inl true)) ((m_gleeref2_Key x2.Places).bind fun y13 => some (.inl (!y13))) : Option (Bool ⊕ (Flow Unit Int))).bind fun k11 => Sum.fin k11 fun u9 => ifB u9 (some (.ret 5)) ((sliceI a0 0 (i1 : Int)).bind fun q14 => (m_gleeref2_ItemAt q14 x2.Key).bind fun y15 => ifB (decide (y15 ≥ 0)) (some (.ret 6)) ((m_gleeref2_in x2.Long 1 86400000).bind fun y16 => ifB (!y16) (some (.ret 1)) (ifB ((x2.Parts.length : Int) == 0) (some (.ret 8)) (ifB (decide ((x2.Parts.length : Int) > 12)) (some (.ret 2)) ((m_gleeref2_Rising x2.Parts).bind fun y17 => ifB (y17 != 0) (some (.ret y17)) (some (.nxt ())))))))
def m_gleeref2_ItemsFault (a0 : (List TItem)) : Option Int :=
  ifB (decide ((a0.length : Int) > 60)) (some 2) ((rangeM (m_gleeref2_ItemsFault_l1 a0) 0 a0 ()).bind fun f7 => Flow.fin f7 fun u4 => some 0)
def m_gleeref2_ProgramFault (a0 : TProgram) : Option Int :=
  (m_gleeref2_ItemsFault a0.Items).bind fun y2 => ifB (y2 != 0) (some y2) (((m_gleeref2_in a0.Change 0 86400000).bind fun y6 => ifB (!y6) (some (.inl true)) ((m_gleeref2_in a0.Clap 0 86400000).bind fun y7 => ifB (!y7) (some (.inl true)) ((m_gleeref2_in a0.Break 0 86400000).bind fun y8 => ifB (!y8) (some (.inl true)) ((m_gleeref2_in a0.Half (-1) (max (-1) (w64 ((a0.Items.length : Int) - 2)))).bind fun y9 => some (.inl (!y9))))) : Option (Bool ⊕ Int)).bind fun k5 => Sum.fin k5 fun u3 => ifB u3 (some 1) (some 0))
def m_gleelaw2_when (a0 : Bool) (a1 : Int) : Option Int :=
  ifB a0 (some a1) (some 0)
def m_gleelaw2_errs_l1  (i1 : Nat) (x2 : Int) (u4 : Unit) : Option (Flow Unit Int) :=
  ifB (x2 != 0) (some (.ret x2)) (some (.nxt ()))
def m_gleelaw2_errs (a0 : (List Int)) : Option Int :=
  (rangeM m_gleelaw2_errs_l1 0 a0 ()).bind fun f7 => Flow.fin f7 fun u4 => some 0
def m_gleeref2_between (a0 : TProgram) (a1 : Int) : Option Int :=
  ifB (a1 == a0.Half) (some a0.Break) ((getI a0.Items a1).bind fun e2 => (getI a0.Items (w64 (a1 + 1))).bind fun e3 => ifB (!(e2.Places.toList == e3.Places.toList)) (some a0.Change) (some a0.Clap))
def m_gleeref2_TimedOf_l1 (a0 : TProgram) (i2 : Nat) (x3 : TItem) (u6 : (Int × (List TTimed))) : Option (Flow (Int × (List TTimed)) (List TTimed)) :=
  (appM 32 u6.2 [(TTimed.mk x3.Key (TWindow.mk u6.1 (w64 (u6.1 + x3.Long))))]).bind fun q13 => ifB (decide ((w64 ((i2 : Int) + 1)) < (a0.Items.length : Int))) ((m_gleeref2_between a0 (i2 : Int)).bind fun y15 => some (.nxt (w64 ((w64 (u6.1 + x3.Long)) + y15), q13))) (some (.nxt (w64 (u6.1 + x3.Long), q13)))
def m_gleeref2_TimedOf (a0 : TProgram) (a1 : Int) : Option (List TTimed) :=
  (rangeM (m_gleeref2_TimedOf_l1 a0) 0 a0.Items (a1, [])).bind fun f9 => Flow.fin f9 fun u6 => some u6.2
def m_gleeref2_LongOfProgram (a0 : TProgram) : Option Int :=
  (m_gleeref2_TimedOf a0 0).bind fun y2 => ifB ((y2.length : Int) == 0) (some 0) ((getI y2 (w64 ((y2.length : Int) - 1))).bind fun e4 => some e4.Time.To)
def m_gleeref2_FittingIn_l2 (i3 : Nat) (i13 : Nat) (x14 : TItem) (u18 : ((List Int) × (List TItem))) : Option (Flow ((List Int) × (List TItem)) (Flow (Int × Int × (List Int)) (List ByteArray))) :=
  (shrM (i3 : Int) (i13 : Int)).bind fun z25 => ifB ((andI z25 1) == 1) ((appM 64 u18.2 [x14]).bind fun q27 => (appM 8 u18.1 [(i13 : Int)]).bind fun q31 => some (.nxt (q31, q27))) (some (.nxt (u18.1, u18.2)))
def m_gleeref2_FittingIn_l3 (a0 : TProgram) (i41 : Nat) (x42 : Int) (u45 : (List ByteArray)) : Option (Flow (List ByteArray) (List ByteArray)) :=
  (getI a0.Items x42).bind fun e50 => (appM 16 u45 [e50.Key]).bind fun q52 => some (.nxt q52)
def m_gleeref2_FittingIn_l1 (a0 : TProgram) (a1 : Int) (i3 : Nat) (x4 : Nat) (u7 : (Int × Int × (List Int))) : Option (Flow (Int × Int × (List Int)) (List ByteArray)) :=
  (rangeM (m_gleeref2_FittingIn_l2 i3) 0 a0.Items ([], [])).bind fun f21 => Flow.fin f21 fun u18 => (m_gleeref2_LongOfProgram (TProgram.mk u18.2 a0.Change a0.Clap a0.Break (-1))).bind fun y35 => (ifB (decide (y35 ≤ a1)) (ifB (decide ((u18.1.length : Int) > u7.1)) (some (.inl true)) (ifB ((u18.1.length : Int) == u7.1) (ifB (decide (y35 > u7.2.1)) (some (.inl true)) (ifB (y35 == u7.2.1) ((m_slices_Compare_int_int u18.1 u7.2.2).bind fun y39 => some (.inl (decide (y39 < 0)))) (some (.inl false)))) (some (.inl false)))) (some (.inl false)) : Option (Bool ⊕ (Flow (Int × Int × (List Int)) (List ByteArray)))).bind fun k38 => Sum.fin k38 fun u36 => ifB u36 (some (.nxt ((u18.1.length : Int), y35, u18.1))) (some (.nxt (u7.1, u7.2.1, u7.2.2)))
def m_gleeref2_FittingIn (a0 : TProgram) (a1 : Int) : Option (List ByteArray) :=
  (shlM 1 (a0.Items.length : Int)).bind fun z2 => (rangeI z2).bind fun L55 => (rangeM (m_gleeref2_FittingIn_l1 a0 a1) 0 L55 (0, 0, [])).bind fun f10 => Flow.fin f10 fun u7 => (rangeM (m_gleeref2_FittingIn_l3 a0) 0 u7.2.2 []).bind fun f48 => Flow.fin f48 fun u45 => some u45
def m_slices_Clone_api_Item_api_Item (a0 : (List TItem)) : Option (List TItem) :=
  (appM 64 ([] : List TItem) a0).bind fun q3 => some q3
def m_gleeref2_EncoresIn_1 (a0 : TItem) (a1_0 : ByteArray) (a1_1 : ByteArray) (a1_2 : Int) (a1_3 : (List ByteArray)) (a2_0 : (List TItem)) (a2_1 : Int) (a2_2 : Int) (a2_3 : Int) (a2_4 : Int) : Option Int :=
  ifB (!(a0.Places.toList == a1_1.toList)) (some (w64 (a0.Long + a2_1))) (some (w64 (a0.Long + a2_2)))
def m_gleeref2_EncoresIn_2__gleeref2_EncoresIn_1 (a0 : TItem) (a1_0_c0_0 : ByteArray) (a1_0_c0_1 : ByteArray) (a1_0_c0_2 : Int) (a1_0_c0_3 : (List ByteArray)) (a1_0_c1_0 : (List TItem)) (a1_0_c1_1 : Int) (a1_0_c1_2 : Int) (a1_0_c1_3 : Int) (a1_0_c1_4 : Int) (a2_0 : Int) : Option Bool :=
  (m_gleeref2_EncoresIn_1 a0 a1_0_c0_0 a1_0_c0_1 a1_0_c0_2 a1_0_c0_3 a1_0_c1_0 a1_0_c1_1 a1_0_c1_2 a1_0_c1_3 a1_0_c1_4).bind fun y2 => some (decide (y2 > a2_0))
def m_slices_IndexFunc_api_Item_api_Item__gleeref2_EncoresIn_1__gleeref2_EncoresIn_2_l1 (a1_c0_0_c0_0 : ByteArray) (a1_c0_0_c0_1 : ByteArray) (a1_c0_0_c0_2 : Int) (a1_c0_0_c0_3 : (List ByteArray)) (a1_c0_0_c1_0 : (List TItem)) (a1_c0_0_c1_1 : Int) (a1_c0_0_c1_2 : Int) (a1_c0_0_c1_3 : Int) (a1_c0_0_c1_4 : Int) (a1_c1_0 : Int) (i1 : Nat) (x2 : TItem) (u4 : Unit) : Option (Flow Unit Int) :=
  (m_gleeref2_EncoresIn_2__gleeref2_EncoresIn_1 x2 a1_c0_0_c0_0 a1_c0_0_c0_1 a1_c0_0_c0_2 a1_c0_0_c0_3 a1_c0_0_c1_0 a1_c0_0_c1_1 a1_c0_0_c1_2 a1_c0_0_c1_3 a1_c0_0_c1_4 a1_c1_0).bind fun y8 => ifB y8 (some (.ret (i1 : Int))) (some (.nxt ()))
def m_slices_IndexFunc_api_Item_api_Item__gleeref2_EncoresIn_1__gleeref2_EncoresIn_2 (a0 : (List TItem)) (a1_c0_0_c0_0 : ByteArray) (a1_c0_0_c0_1 : ByteArray) (a1_c0_0_c0_2 : Int) (a1_c0_0_c0_3 : (List ByteArray)) (a1_c0_0_c1_0 : (List TItem)) (a1_c0_0_c1_1 : Int) (a1_c0_0_c1_2 : Int) (a1_c0_0_c1_3 : Int) (a1_c0_0_c1_4 : Int) (a1_c1_0 : Int) : Option Int :=
  (rangeM (m_slices_IndexFunc_api_Item_api_Item__gleeref2_EncoresIn_1__gleeref2_EncoresIn_2_l1 a1_c0_0_c0_0 a1_c0_0_c0_1 a1_c0_0_c0_2 a1_c0_0_c0_3 a1_c0_0_c1_0 a1_c0_0_c1_1 a1_c0_0_c1_2 a1_c0_0_c1_3 a1_c0_0_c1_4 a1_c1_0) 0 a0 ()).bind fun f7 => Flow.fin f7 fun u4 => some (-1)
def m_slices_DeleteFunc_api_Item_api_Item__gleeref2_EncoresIn_1__gleeref2_EncoresIn_2_l1 (a1_c0_0_c0_0 : ByteArray) (a1_c0_0_c0_1 : ByteArray) (a1_c0_0_c0_2 : Int) (a1_c0_0_c0_3 : (List ByteArray)) (a1_c0_0_c1_0 : (List TItem)) (a1_c0_0_c1_1 : Int) (a1_c0_0_c1_2 : Int) (a1_c0_0_c1_3 : Int) (a1_c0_0_c1_4 : Int) (a1_c1_0 : Int) (u2 : (Int × Int × (List TItem))) : Option (Flow (Int × Int × (List TItem)) (List TItem)) :=
  ifB (decide (u2.2.1 < (u2.2.2.length : Int))) ((getI u2.2.2 u2.2.1).bind fun e6 => (m_gleeref2_EncoresIn_2__gleeref2_EncoresIn_1 e6 a1_c0_0_c0_0 a1_c0_0_c0_1 a1_c0_0_c0_2 a1_c0_0_c0_3 a1_c0_0_c1_0 a1_c0_0_c1_1 a1_c0_0_c1_2 a1_c0_0_c1_3 a1_c0_0_c1_4 a1_c1_0).bind fun y8 => ifB (!y8) ((getI u2.2.2 u2.1).bind fun e9 => some (.nxt (w64 (u2.1 + 1), w64 (u2.2.1 + 1), (u2.2.2.set u2.1.toNat e6)))) (some (.nxt (u2.1, w64 (u2.2.1 + 1), u2.2.2)))) (some (.brk (u2.1, u2.2.1, u2.2.2)))
def m_slices_DeleteFunc_api_Item_api_Item__gleeref2_EncoresIn_1__gleeref2_EncoresIn_2 (a0 : (List TItem)) (a1_c0_0_c0_0 : ByteArray) (a1_c0_0_c0_1 : ByteArray) (a1_c0_0_c0_2 : Int) (a1_c0_0_c0_3 : (List ByteArray)) (a1_c0_0_c1_0 : (List TItem)) (a1_c0_0_c1_1 : Int) (a1_c0_0_c1_2 : Int) (a1_c0_0_c1_3 : Int) (a1_c0_0_c1_4 : Int) (a1_c1_0 : Int) : Option (List TItem) :=
  (m_slices_IndexFunc_api_Item_api_Item__gleeref2_EncoresIn_1__gleeref2_EncoresIn_2 a0 a1_c0_0_c0_0 a1_c0_0_c0_1 a1_c0_0_c0_2 a1_c0_0_c0_3 a1_c0_0_c1_0 a1_c0_0_c1_1 a1_c0_0_c1_2 a1_c0_0_c1_3 a1_c0_0_c1_4 a1_c1_0).bind fun y1 => ifB (y1 == (-1)) (some a0) ((loopM (m_slices_DeleteFunc_api_Item_api_Item__gleeref2_EncoresIn_1__gleeref2_EncoresIn_2_l1 a1_c0_0_c0_0 a1_c0_0_c0_1 a1_c0_0_c0_2 a1_c0_0_c0_3 a1_c0_0_c1_0 a1_c0_0_c1_1 a1_c0_0_c1_2 a1_c0_0_c1_3 a1_c0_0_c1_4 a1_c1_0) (y1, w64 (y1 + 1), a0)).bind fun f5 => Flow.fin f5 fun u2 => (sliceI u2.2.2 u2.1 (u2.2.2.length : Int)).bind fun q11 => (sliceI (clearM (TItem.mk ByteArray.empty ByteArray.empty 0 []) u2.2.2 u2.1) 0 u2.1).bind fun q14 => some q14)
def m_gleeref2_sign (a0 : Int) : Option Int :=
  ifB (decide (a0 < 0)) (some (-1)) (ifB (decide (a0 > 0)) (some 1) (some 0))
def m_gleeref2_EncoresIn_3__gleeref2_EncoresIn_1 (a0 : TItem) (a1 : TItem) (a2_0_c0_0 : ByteArray) (a2_0_c0_1 : ByteArray) (a2_0_c0_2 : Int) (a2_0_c0_3 : (List ByteArray)) (a2_0_c1_0 : (List TItem)) (a2_0_c1_1 : Int) (a2_0_c1_2 : Int) (a2_0_c1_3 : Int) (a2_0_c1_4 : Int) : Option Int :=
  (m_gleeref2_EncoresIn_1 a1 a2_0_c0_0 a2_0_c0_1 a2_0_c0_2 a2_0_c0_3 a2_0_c1_0 a2_0_c1_1 a2_0_c1_2 a2_0_c1_3 a2_0_c1_4).bind fun y3 => (m_gleeref2_EncoresIn_1 a0 a2_0_c0_0 a2_0_c0_1 a2_0_c0_2 a2_0_c0_3 a2_0_c1_0 a2_0_c1_1 a2_0_c1_2 a2_0_c1_3 a2_0_c1_4).bind fun y4 => (m_gleeref2_sign (w64 (y3 - y4))).bind fun y5 => some y5
def m_slices_insertionSortCmpFunc_api_Item__gleeref2_EncoresIn_1__gleeref2_EncoresIn_3_l2 (a1 : Int) (a3_c0_0_c0_0 : ByteArray) (a3_c0_0_c0_1 : ByteArray) (a3_c0_0_c0_2 : Int) (a3_c0_0_c0_3 : (List ByteArray)) (a3_c0_0_c1_0 : (List TItem)) (a3_c0_0_c1_1 : Int) (a3_c0_0_c1_2 : Int) (a3_c0_0_c1_3 : Int) (a3_c0_0_c1_4 : Int) (u5 : (Int × (List TItem))) : Option (Flow (Int × (List TItem)) (Flow (Int × (List TItem)) (List TItem))) :=
  ifB (decide (u5.1 > a1)) ((getI u5.2 u5.1).bind fun e9 => (getI u5.2 (w64 (u5.1 - 1))).bind fun e10 => (m_gleeref2_EncoresIn_3__gleeref2_EncoresIn_1 e9 e10 a3_c0_0_c0_0 a3_c0_0_c0_1 a3_c0_0_c0_2 a3_c0_0_c0_3 a3_c0_0_c1_0 a3_c0_0_c1_1 a3_c0_0_c1_2 a3_c0_0_c1_3 a3_c0_0_c1_4).bind fun y11 => ifB (decide (y11 < 0)) ((getI u5.2 (w64 (u5.1 - 1))).bind fun e12 => (getI u5.2 u5.1).bind fun e13 => (getI u5.2 u5.1).bind fun e14 => (getI (u5.2.set u5.1.toNat e12) (w64 (u5.1 - 1))).bind fun e16 => some (.nxt (w64 (u5.1 - 1), ((u5.2.set u5.1.toNat e12).set ((w64 (u5.1 - 1)).toNat) e13)))) (some (.brk (u5.1, u5.2)))) (some (.brk (u5.1, u5.2)))
def m_slices_insertionSortCmpFunc_api_Item__gleeref2_EncoresIn_1__gleeref2_EncoresIn_3_l1 (a1 : Int) (a2 : Int) (a3_c0_0_c0_0 : ByteArray) (a3_c0_0_c0_1 : ByteArray) (a3_c0_0_c0_2 : Int) (a3_c0_0_c0_3 : (List ByteArray)) (a3_c0_0_c1_0 : (List TItem)) (a3_c0_0_c1_1 : Int) (a3_c0_0_c1_2 : Int) (a3_c0_0_c1_3 : Int) (a3_c0_0_c1_4 : Int) (u1 : (Int × (List TItem))) : Option (Flow (Int × (List TItem)) (List TItem)) :=
  ifB (decide (u1.1 < a2)) ((loopM (m_slices_insertionSortCmpFunc_api_Item__gleeref2_EncoresIn_1__gleeref2_EncoresIn_3_l2 a1 a3_c0_0_c0_0 a3_c0_0_c0_1 a3_c0_0_c0_2 a3_c0_0_c0_3 a3_c0_0_c1_0 a3_c0_0_c1_1 a3_c0_0_c1_2 a3_c0_0_c1_3 a3_c0_0_c1_4) (u1.1, u1.2)).bind fun f8 => Flow.fin f8 fun u5 => some (.nxt (w64 (u1.1 + 1), u5.2))) (some (.brk (u1.1, u1.2)))
def m_slices_insertionSortCmpFunc_api_Item__gleeref2_EncoresIn_1__gleeref2_EncoresIn_3 (a0 : (List TItem)) (a1 : Int) (a2 : Int) (a3_c0_0_c0_0 : ByteArray) (a3_c0_0_c0_1 : ByteArray) (a3_c0_0_c0_2 : Int) (a3_c0_0_c0_3 : (List ByteArray)) (a3_c0_0_c1_0 : (List TItem)) (a3_c0_0_c1_1 : Int) (a3_c0_0_c1_2 : Int) (a3_c0_0_c1_3 : Int) (a3_c0_0_c1_4 : Int) : Option (List TItem) :=
  (loopM (m_slices_insertionSortCmpFunc_api_Item__gleeref2_EncoresIn_1__gleeref2_EncoresIn_3_l1 a1 a2 a3_c0_0_c0_0 a3_c0_0_c0_1 a3_c0_0_c0_2 a3_c0_0_c0_3 a3_c0_0_c1_0 a3_c0_0_c1_1 a3_c0_0_c1_2 a3_c0_0_c1_3 a3_c0_0_c1_4) (w64 (a1 + 1), a0)).bind fun f4 => Flow.fin f4 fun u1 => some u1.2
def m_slices_stableCmpFunc_api_Item__gleeref2_EncoresIn_1__gleeref2_EncoresIn_3_l3 (a1 : Int) (u9 : (Int × Int × Int)) (u13 : Unit) : Option (Flow Unit (Flow (Int × Int × Int) (List TItem))) :=
  ifB (decide ((w64 (2 * u9.1)) ≤ a1)) (none) (some (.brk ()))
def m_slices_stableCmpFunc_api_Item__gleeref2_EncoresIn_1__gleeref2_EncoresIn_3_l2 (a1 : Int) (u9 : (Int × Int × Int)) : Option (Flow (Int × Int × Int) (List TItem)) :=
  ifB (decide (u9.1 < a1)) ((loopM (m_slices_stableCmpFunc_api_Item__gleeref2_EncoresIn_1__gleeref2_EncoresIn_3_l3 a1 u9) ()).bind fun f16 => Flow.fin f16 fun u13 => ifB (decide ((w64 (0 + u9.1)) < a1)) (none) (some (.nxt (w64 (u9.1 * 2), 0, w64 (2 * u9.1))))) (some (.brk (u9.1, u9.2.1, u9.2.2)))
def m_slices_stableCmpFunc_api_Item__gleeref2_EncoresIn_1__gleeref2_EncoresIn_3_l1 (a1 : Int) (a2_c0_0_c0_0 : ByteArray) (a2_c0_0_c0_1 : ByteArray) (a2_c0_0_c0_2 : Int) (a2_c0_0_c0_3 : (List ByteArray)) (a2_c0_0_c1_0 : (List TItem)) (a2_c0_0_c1_1 : Int) (a2_c0_0_c1_2 : Int) (a2_c0_0_c1_3 : Int) (a2_c0_0_c1_4 : Int) (u1 : (Int × Int × (List TItem))) : Option (Flow (Int × Int × (List TItem)) (List TItem)) :=
  ifB (decide (u1.2.1 ≤ a1)) ((m_slices_insertionSortCmpFunc_api_Item__gleeref2_EncoresIn_1__gleeref2_EncoresIn_3 u1.2.2 u1.1 u1.2.1 a2_c0_0_c0_0 a2_c0_0_c0_1 a2_c0_0_c0_2 a2_c0_0_c0_3 a2_c0_0_c1_0 a2_c0_0_c1_1 a2_c0_0_c1_2 a2_c0_0_c1_3 a2_c0_0_c1_4).bind fun y5 => some (.nxt (u1.2.1, w64 (u1.2.1 + 20), y5))) (some (.brk (u1.1, u1.2.1, u1.2.2)))
def m_slices_stableCmpFunc_api_Item__gleeref2_EncoresIn_1__gleeref2_EncoresIn_3 (a0 : (List TItem)) (a1 : Int) (a2_c0_0_c0_0 : ByteArray) (a2_c0_0_c0_1 : ByteArray) (a2_c0_0_c0_2 : Int) (a2_c0_0_c0_3 : (List ByteArray)) (a2_c0_0_c1_0 : (List TItem)) (a2_c0_0_c1_1 : Int) (a2_c0_0_c1_2 : Int) (a2_c0_0_c1_3 : Int) (a2_c0_0_c1_4 : Int) : Option (List TItem) :=
  (loopM (m_slices_stableCmpFunc_api_Item__gleeref2_EncoresIn_1__gleeref2_EncoresIn_3_l1 a1 a2_c0_0_c0_0 a2_c0_0_c0_1 a2_c0_0_c0_2 a2_c0_0_c0_3 a2_c0_0_c1_0 a2_c0_0_c1_1 a2_c0_0_c1_2 a2_c0_0_c1_3 a2_c0_0_c1_4) (0, 20, a0)).bind fun f4 => Flow.fin f4 fun u1 => (m_slices_insertionSortCmpFunc_api_Item__gleeref2_EncoresIn_1__gleeref2_EncoresIn_3 u1.2.2 u1.1 a1 a2_c0_0_c0_0 a2_c0_0_c0_1 a2_c0_0_c0_2 a2_c0_0_c0_3 a2_c0_0_c1_0 a2_c0_0_c1_1 a2_c0_0_c1_2 a2_c0_0_c1_3 a2_c0_0_c1_4).bind fun y7 => (loopM (m_slices_stableCmpFunc_api_Item__gleeref2_EncoresIn_1__gleeref2_EncoresIn_3_l2 a1) (20, u1.1, u1.2.1)).bind fun f12 => Flow.fin f12 fun u9 => some y7
def m_slices_SortStableFunc_api_Item_api_Item__gleeref2_EncoresIn_1__gleeref2_EncoresIn_3 (a0 : (List TItem)) (a1_c0_0_c0_0 : ByteArray) (a1_c0_0_c0_1 : ByteArray) (a1_c0_0_c0_2 : Int) (a1_c0_0_c0_3 : (List ByteArray)) (a1_c0_0_c1_0 : (List TItem)) (a1_c0_0_c1_1 : Int) (a1_c0_0_c1_2 : Int) (a1_c0_0_c1_3 : Int) (a1_c0_0_c1_4 : Int) : Option (List TItem) :=
  (m_slices_stableCmpFunc_api_Item__gleeref2_EncoresIn_1__gleeref2_EncoresIn_3 a0 (a0.length : Int) a1_c0_0_c0_0 a1_c0_0_c0_1 a1_c0_0_c0_2 a1_c0_0_c0_3 a1_c0_0_c1_0 a1_c0_0_c1_1 a1_c0_0_c1_2 a1_c0_0_c1_3 a1_c0_0_c1_4).bind fun y1 => some y1
def m_gleeref2_keysOf_l1  (i1 : Nat) (x2 : TItem) (u5 : (List ByteArray)) : Option (Flow (List ByteArray) (List ByteArray)) :=
  (appM 16 u5 [x2.Key]).bind fun q12 => some (.nxt q12)
def m_gleeref2_keysOf (a0 : (List TItem)) : Option (List ByteArray) :=
  (rangeM m_gleeref2_keysOf_l1 0 a0 []).bind fun f8 => Flow.fin f8 fun u5 => some u5
def m_gleeref2_EncoresIn (a0 : TProgram) (a1 : Int) : Option (List ByteArray) :=
  (getI a0.Items (w64 ((a0.Items.length : Int) - 1))).bind fun e3 => (m_slices_Clone_api_Item_api_Item a0.Items).bind fun y6 => (m_slices_DeleteFunc_api_Item_api_Item__gleeref2_EncoresIn_1__gleeref2_EncoresIn_2 y6 e3.Key e3.Places e3.Long e3.Parts a0.Items a0.Change a0.Clap a0.Break a0.Half a1).bind fun y9 => (m_slices_SortStableFunc_api_Item_api_Item__gleeref2_EncoresIn_1__gleeref2_EncoresIn_3 y9 e3.Key e3.Places e3.Long e3.Parts a0.Items a0.Change a0.Clap a0.Break a0.Half).bind fun y12 => (m_gleeref2_keysOf y12).bind fun y14 => some y14
def m_slices_Equal_string_string_l1 (a1 : (List ByteArray)) (i1 : Nat) (x2 : ByteArray) (u4 : Unit) : Option (Flow Unit Bool) :=
  (getI a1 (i1 : Int)).bind fun e8 => ifB (!(x2.toList == e8.toList)) (some (.ret false)) (some (.nxt ()))
def m_slices_Equal_string_string (a0 : (List ByteArray)) (a1 : (List ByteArray)) : Option Bool :=
  ifB ((a0.length : Int) != (a1.length : Int)) (some false) ((rangeM (m_slices_Equal_string_string_l1 a1) 0 a0 ()).bind fun f7 => Flow.fin f7 fun u4 => some true)
def m_concert_Long (a0 : TProgram) : Option (Int × Int) :=
  (m_concert_CheckProgram a0).bind fun y2 => ifB (y2 != 0) (some (0, y2)) ((m_concert_begins a0).bind fun y3 => some (y3.2, 0))
def m_gleelaw2_sung  : Option Bool :=
  (m_concert_Long (TProgram.mk [(TItem.mk (ByteArray.mk [97].toArray) (ByteArray.mk [112].toArray) 7 [(ByteArray.mk [97, 108, 116, 111].toArray)])] 0 0 0 (-1))).bind fun y3 => ifB (y3.2 == 0) (some (y3.1 == 7)) (some false)
def m_gleelaw2_ConcertsFit (a0 : (List Int)) : Option Bool :=
  (m_gleemake_Stream_AProgram a0 0 5).bind fun y2 => (m_gleemake_Stream_Pick a0 y2.2 [0, 99, 150, 260, 400, 1000, (-1), 5184000001]).bind fun y6 => (m_gleemake_Stream_Pick a0 y6.2 [0, 60, 110, 130, 250, (-1), 86400001]).bind fun y8 => (m_concert_Fitting y2.1 y6.1).bind fun y10 => (m_concert_Encores y2.1 y8.1).bind fun y12 => (m_gleeref2_ProgramFault y2.1).bind fun y14 => (ifB (decide (y6.1 < 0)) ((m_gleelaw2_when true 1).bind fun y18 => (m_gleelaw2_errs [y14, y18]).bind fun y20 => some (.inl y20)) ((m_gleelaw2_when (decide (y6.1 > 5184000000)) 1).bind fun y21 => (m_gleelaw2_errs [y14, y21]).bind fun y23 => some (.inl y23)) : Option (Int ⊕ Bool)).bind fun k17 => Sum.fin k17 fun u15 => (ifB (decide (y8.1 < 0)) ((m_gleelaw2_when true 1).bind fun y28 => (m_gleelaw2_when ((y2.1.Items.length : Int) == 0) 8).bind fun y29 => (m_gleelaw2_errs [y14, y28, y29]).bind fun y31 => some (.inl y31)) ((m_gleelaw2_when (decide (y8.1 > 86400000)) 1).bind fun y33 => (m_gleelaw2_when ((y2.1.Items.length : Int) == 0) 8).bind fun y34 => (m_gleelaw2_errs [y14, y33, y34]).bind fun y36 => some (.inl y36)) : Option (Int ⊕ Bool)).bind fun k26 => Sum.fin k26 fun u24 => (ifB (u15 == 0) ((m_gleeref2_FittingIn y2.1 y6.1).bind fun y42 => some (.inl y42)) (some (.inl [])) : Option ((List ByteArray) ⊕ Bool)).bind fun k41 => Sum.fin k41 fun u38 => (ifB (u24 == 0) ((m_gleeref2_EncoresIn y2.1 y8.1).bind fun y49 => some (.inl y49)) (some (.inl [])) : Option ((List ByteArray) ⊕ Bool)).bind fun k48 => Sum.fin k48 fun u45 => ifB (y10.2 == u15) ((m_slices_Equal_string_string y10.1 u38).bind fun y52 => ifB y52 (ifB (y12.2 == u24) ((m_slices_Equal_string_string y12.1 u45).bind fun y53 => ifB y53 (m_gleelaw2_sung.bind fun y54 => some y54) (some false)) (some false)) (some false)) (some false)
end
end Go.G
