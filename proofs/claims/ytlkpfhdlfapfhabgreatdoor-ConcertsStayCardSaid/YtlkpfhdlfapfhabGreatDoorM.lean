/- The models. Written by program. -/
import Derived.Test.YtlkpfhdlfapfhabGreatDoorXM
namespace Go.G
open Go Go.J
set_option linter.unusedVariables false
noncomputable section
structure Tgleemake_Stream where
  L : (List Int)
  at_ : Int
  deriving DecidableEq, Inhabited
structure TItem where
  Key : ByteArray
  Places : ByteArray
  Long : Int
  Parts : (List ByteArray)
  deriving DecidableEq, Inhabited
structure TProgram where
  Items : (List TItem)
  Change : Int
  Clap : Int
  Break : Int
  Half : Int
  deriving DecidableEq, Inhabited
structure TWindow where
  From : Int
  To : Int
  deriving DecidableEq, Inhabited
structure TTimed where
  Key : ByteArray
  Time : TWindow
  deriving DecidableEq, Inhabited
structure Tconcert_rank where
  long_ : Int
  pairs : Int
  keys : (List ByteArray)
  deriving DecidableEq, Inhabited
structure TBar where
  Beats : Int
  Unit : Int
  Close : Int
  Ending : Int
  Open : Bool
  deriving DecidableEq, Inhabited
structure TChord where
  Root : Int
  Kind : Int
  Turn : Int
  deriving DecidableEq, Inhabited
structure TCame where
  At : Int
  Singer : ByteArray
  Left : Bool
  deriving DecidableEq, Inhabited
structure TAct where
  Site : ByteArray
  No : Int
  At : Int
  Kind : Int
  Who : ByteArray
  Motion : ByteArray
  Cents : Int
  Yes : Bool
  Of : ByteArray
  Other : Int
  deriving DecidableEq, Inhabited
structure Tpiece_repeat where
  from_ : Int
  to_ : Int
  times : Int
  deriving DecidableEq, Inhabited
structure Tclub_stay where
  since : Int
  till : Int
  cents : Int
  deriving DecidableEq, Inhabited
structure Tclub_own where
  site : ByteArray
  no : Int
  deriving DecidableEq, Inhabited
structure Tclub_uses where
  who : Bool
  motion : Bool
  cents : Bool
  yes : Bool
  undo : Bool
  deriving DecidableEq, Inhabited
def m_gleemake_Below (a0 : Int) (a1 : Int) : Option Int :=
  ifB (decide (a1 < 1)) (some 0) ((remM a0 a1).bind fun z1 => ifB (decide (z1 < 0)) (some (w64 (z1 + a1))) (some z1))
def m_gleemake_Stream_Next (a0_0 : (List Int)) (a0_1 : Int) (a1 : Int) : Option (Int × Int) :=
  ifB ((a0_0.length : Int) == 0) ((m_gleemake_Below (w64 ((w64 (a0_1 + 1)) * 7919)) a1).bind fun y1 => some (y1, w64 (a0_1 + 1))) ((remM (w64 ((w64 (a0_1 + 1)) - 1)) (a0_0.length : Int)).bind fun z2 => (quoM (w64 ((w64 (a0_1 + 1)) - 1)) (a0_0.length : Int)).bind fun z3 => (getI a0_0 z2).bind fun e4 => (m_gleemake_Below e4 1073741824).bind fun y5 => (m_gleemake_Below (w64 (y5 + (w64 (z3 * (w64 (7919 + z2)))))) a1).bind fun y6 => some (y6, w64 (a0_1 + 1)))
def m_gleemake_Stream_Pick (a0_0 : (List Int)) (a0_1 : Int) (a1 : (List Int)) : Option (Int × Int) :=
  (m_gleemake_Stream_Next a0_0 a0_1 (a1.length : Int)).bind fun y1 => (getI a1 y1.1).bind fun e2 => some (e2, y1.2)
def m_gleemake_Stream_Flip (a0_0 : (List Int)) (a0_1 : Int) (a1 : Int) : Option (Bool × Int) :=
  (m_gleemake_Stream_Next a0_0 a0_1 a1).bind fun y1 => some (y1.1 == 0, y1.2)
def m_gleemake_Stream_Some (a0_0 : (List Int)) (a0_1 : Int) (a1 : (List ByteArray)) : Option (ByteArray × Int) :=
  (m_gleemake_Stream_Next a0_0 a0_1 (a1.length : Int)).bind fun y1 => (getI a1 y1.1).bind fun e2 => some (e2, y1.2)
def m_gleemake_Stream_RightProgram_l2 (a0_0 : (List Int)) (i27 : Nat) (x28 : ByteArray) (u31 : (Int × (List ByteArray))) : Option (Flow (Int × (List ByteArray)) (Flow (Int × (List TItem)) (TProgram × Int))) :=
  (m_gleemake_Stream_Flip a0_0 u31.1 2).bind fun y36 => ifB y36.1 ((appM 16 u31.2 [x28]).bind fun q38 => some (.nxt (y36.2, q38))) (some (.nxt (y36.2, u31.2)))
def m_gleemake_Stream_RightProgram_l1 (a0_0 : (List Int)) (i11 : Nat) (x12 : ByteArray) (u15 : (Int × (List TItem))) : Option (Flow (Int × (List TItem)) (TProgram × Int)) :=
  (m_gleemake_Stream_Flip a0_0 u15.1 6).bind fun y20 => ifB y20.1 (some (.nxt (y20.2, u15.2))) ((m_gleemake_Stream_Some a0_0 y20.2 [(ByteArray.mk [114, 111, 119, 115].toArray), (ByteArray.mk [114, 111, 119, 115].toArray), (ByteArray.mk [99, 105, 114, 99, 108, 101].toArray)]).bind fun y22 => (m_gleemake_Stream_Pick a0_0 y22.2 [50, 100, 100, 200]).bind fun y24 => (rangeM (m_gleemake_Stream_RightProgram_l2 a0_0) 0 [(ByteArray.mk [97, 108, 116, 111].toArray), (ByteArray.mk [98, 97, 115, 115].toArray), (ByteArray.mk [115, 111, 108, 105].toArray)] (y24.2, [])).bind fun f34 => Flow.fin f34 fun u31 => (ifB ((u31.2.length : Int) == 0) (some (.inl [(ByteArray.mk [97, 108, 116, 111].toArray)])) (some (.inl u31.2)) : Option ((List ByteArray) ⊕ (Flow (Int × (List TItem)) (TProgram × Int)))).bind fun k44 => Sum.fin k44 fun u41 => (appM 64 u15.2 [(TItem.mk x12 y22.1 y24.1 u41)]).bind fun q47 => some (.nxt (u31.1, q47)))
def m_gleemake_Stream_RightProgram (a0_0 : (List Int)) (a0_1 : Int) (a1 : Int) : Option (TProgram × Int) :=
  (m_gleemake_Stream_Pick a0_0 a0_1 [0, 30, 50]).bind fun y3 => (m_gleemake_Stream_Pick a0_0 y3.2 [0, 10, 30]).bind fun y5 => (m_gleemake_Stream_Pick a0_0 y5.2 [0, 100]).bind fun y7 => (sliceI [(ByteArray.mk [99].toArray), (ByteArray.mk [97].toArray), (ByteArray.mk [100].toArray), (ByteArray.mk [98].toArray), (ByteArray.mk [101].toArray)] 0 a1).bind fun q10 => (rangeM (m_gleemake_Stream_RightProgram_l1 a0_0) 0 q10 (y7.2, [])).bind fun f18 => Flow.fin f18 fun u15 => (ifB (decide ((u15.2.length : Int) > 1)) ((m_gleemake_Stream_Flip a0_0 u15.1 2).bind fun y54 => some (.inl (y54.1, y54.2))) (some (.inl (false, u15.1))) : Option ((Bool × Int) ⊕ (TProgram × Int))).bind fun k53 => Sum.fin k53 fun u51 => ifB u51.1 ((m_gleemake_Stream_Next a0_0 u51.2 (w64 ((u15.2.length : Int) - 1))).bind fun y55 => some ((TProgram.mk u15.2 y3.1 y5.1 y7.1 y55.1), y55.2)) (some ((TProgram.mk u15.2 y3.1 y5.1 y7.1 (-1)), u51.2))
def m_kit_IsKey (a0 : ByteArray) : Option Bool :=
  ifB (!(a0.toList == ByteArray.empty.toList)) (ifB (decide ((a0.size : Int) ≤ 40)) ((strI a0 0).bind fun c1 => (m_strings_IndexByte (ByteArray.mk [97, 98, 99, 100, 101, 102, 103, 104, 105, 106, 107, 108, 109, 110, 111, 112, 113, 114, 115, 116, 117, 118, 119, 120, 121, 122].toArray) c1).bind fun y2 => ifB (decide (y2 ≥ 0)) ((m_strings_Trim a0 (ByteArray.mk [97, 98, 99, 100, 101, 102, 103, 104, 105, 106, 107, 108, 109, 110, 111, 112, 113, 114, 115, 116, 117, 118, 119, 120, 121, 122, 48, 49, 50, 51, 52, 53, 54, 55, 56, 57, 45, 95].toArray)).bind fun y3 => some (y3.toList == ByteArray.empty.toList)) (some false)) (some false)) (some false)
def m_concert_CheckItems_1 (a0 : TItem) (a1_0 : ByteArray) (a1_1 : ByteArray) (a1_2 : Int) (a1_3 : (List ByteArray)) : Option Bool :=
  some (a0.Key.toList == a1_0.toList)
def m_slices_IndexFunc_api_Item_api_Item__concert_CheckItems_1_l1 (a1_c0_0 : ByteArray) (a1_c0_1 : ByteArray) (a1_c0_2 : Int) (a1_c0_3 : (List ByteArray)) (i1 : Nat) (x2 : TItem) (u4 : Unit) : Option (Flow Unit Int) :=
  (m_concert_CheckItems_1 x2 a1_c0_0 a1_c0_1 a1_c0_2 a1_c0_3).bind fun y8 => ifB y8 (some (.ret (i1 : Int))) (some (.nxt ()))
def m_slices_IndexFunc_api_Item_api_Item__concert_CheckItems_1 (a0 : (List TItem)) (a1_c0_0 : ByteArray) (a1_c0_1 : ByteArray) (a1_c0_2 : Int) (a1_c0_3 : (List ByteArray)) : Option Int :=
  (rangeM (m_slices_IndexFunc_api_Item_api_Item__concert_CheckItems_1_l1 a1_c0_0 a1_c0_1 a1_c0_2 a1_c0_3) 0 a0 ()).bind fun f7 => Flow.fin f7 fun u4 => some (-1)
def m_slices_ContainsFunc_api_Item_api_Item__concert_CheckItems_1 (a0 : (List TItem)) (a1_c0_0 : ByteArray) (a1_c0_1 : ByteArray) (a1_c0_2 : Int) (a1_c0_3 : (List ByteArray)) : Option Bool :=
  (m_slices_IndexFunc_api_Item_api_Item__concert_CheckItems_1 a0 a1_c0_0 a1_c0_1 a1_c0_2 a1_c0_3).bind fun y1 => some (decide (y1 ≥ 0))
def m_kit_Outside (a0 : Int) (a1 : Int) (a2 : Int) : Option Bool :=
  ifB (decide (a0 < a1)) (some true) (some (decide (a0 > a2)))
def m_concert_partsFault_l1 (a0 : (List ByteArray)) (i1 : Nat) (x2 : ByteArray) (u4 : Unit) : Option (Flow Unit Int) :=
  (m_kit_IsKey x2).bind fun y8 => ifB (!y8) (some (.ret 5)) ((ifB (decide ((i1 : Int) > 0)) ((getI a0 (w64 ((i1 : Int) - 1))).bind fun e12 => some (.inl (Op.bytesLess x2.toList e12.toList || x2.toList == e12.toList))) (some (.inl false)) : Option (Bool ⊕ (Flow Unit Int))).bind fun k11 => Sum.fin k11 fun u9 => ifB u9 (some (.ret 7)) (some (.nxt ())))
def m_concert_partsFault (a0 : (List ByteArray)) : Option Int :=
  ifB ((a0.length : Int) == 0) (some 8) (ifB (decide ((a0.length : Int) > 12)) (some 2) ((rangeM (m_concert_partsFault_l1 a0) 0 a0 ()).bind fun f7 => Flow.fin f7 fun u4 => some 0))
def m_concert_CheckItems_l1 (a0 : (List TItem)) (i1 : Nat) (x2 : TItem) (u4 : Unit) : Option (Flow Unit Int) :=
  ((m_kit_IsKey x2.Key).bind fun y12 => ifB (!y12) (some (.inl true)) ((m_kit_IsKey x2.Places).bind fun y13 => some (.inl (!y13))) : Option (Bool ⊕ (Flow Unit Int))).bind fun k11 => Sum.fin k11 fun u9 => ifB u9 (some (.ret 5)) ((sliceI a0 0 (i1 : Int)).bind fun q14 => (m_slices_ContainsFunc_api_Item_api_Item__concert_CheckItems_1 q14 x2.Key x2.Places x2.Long x2.Parts).bind fun y15 => ifB y15 (some (.ret 6)) ((m_kit_Outside x2.Long 1 86400000).bind fun y16 => ifB y16 (some (.ret 1)) ((m_concert_partsFault x2.Parts).bind fun y17 => ifB (y17 != 0) (some (.ret y17)) (some (.nxt ())))))
def m_concert_CheckItems (a0 : (List TItem)) : Option Int :=
  ifB (decide ((a0.length : Int) > 60)) (some 2) ((rangeM (m_concert_CheckItems_l1 a0) 0 a0 ()).bind fun f7 => Flow.fin f7 fun u4 => some 0)
def m_concert_CheckProgram (a0 : TProgram) : Option Int :=
  (m_concert_CheckItems a0.Items).bind fun y2 => ifB (y2 != 0) (some y2) (((m_kit_Outside a0.Change 0 86400000).bind fun y6 => ifB y6 (some (.inl true)) ((m_kit_Outside a0.Clap 0 86400000).bind fun y7 => ifB y7 (some (.inl true)) ((m_kit_Outside a0.Break 0 86400000).bind fun y8 => ifB y8 (some (.inl true)) ((m_kit_Outside a0.Half (-1) (max (-1) (w64 ((a0.Items.length : Int) - 2)))).bind fun y9 => some (.inl y9)))) : Option (Bool ⊕ Int)).bind fun k5 => Sum.fin k5 fun u3 => ifB u3 (some 1) (some 0))
def m_slices_Clone_api_Item_api_Item (a0 : (List TItem)) : Option (List TItem) :=
  (appM 64 ([] : List TItem) a0).bind fun q3 => some q3
def m_concert_change (a0 : TProgram) (a1 : TItem) (a2 : TItem) : Option Int :=
  ifB (!(a1.Places.toList == a2.Places.toList)) (some a0.Change) (some a0.Clap)
def m_concert_behind (a0 : TProgram) (a1 : Int) : Option Int :=
  ifB (a1 == a0.Half) (some a0.Break) ((getI a0.Items a1).bind fun e2 => (getI a0.Items (w64 (a1 + 1))).bind fun e3 => (m_concert_change a0 e2 e3).bind fun y4 => some y4)
def m_concert_begins_l1 (a0 : TProgram) (i2 : Nat) (x3 : TItem) (u6 : (Int × (List Int))) : Option (Flow (Int × (List Int)) ((List Int) × Int)) :=
  (appM 8 u6.2 [u6.1]).bind fun q13 => ifB (decide ((w64 ((i2 : Int) + 1)) < (a0.Items.length : Int))) ((m_concert_behind a0 (i2 : Int)).bind fun y15 => some (.nxt (w64 ((w64 (u6.1 + x3.Long)) + y15), q13))) (some (.nxt (w64 (u6.1 + x3.Long), q13)))
def m_concert_begins (a0 : TProgram) : Option ((List Int) × Int) :=
  (rangeM (m_concert_begins_l1 a0) 0 a0.Items (0, [])).bind fun f9 => Flow.fin f9 fun u6 => some (u6.2, u6.1)
def m_slices_Index_string_string_l1 (a1 : ByteArray) (i1 : Nat) (x2 : ByteArray) (u4 : Unit) : Option (Flow Unit Int) :=
  ifB (a1.toList == x2.toList) (some (.ret (i1 : Int))) (some (.nxt ()))
def m_slices_Index_string_string (a0 : (List ByteArray)) (a1 : ByteArray) : Option Int :=
  (rangeM (m_slices_Index_string_string_l1 a1) 0 a0 ()).bind fun f7 => Flow.fin f7 fun u4 => some (-1)
def m_slices_Contains_string_string (a0 : (List ByteArray)) (a1 : ByteArray) : Option Bool :=
  (m_slices_Index_string_string a0 a1).bind fun y1 => some (decide (y1 ≥ 0))
def m_concert_common_1 (a0 : ByteArray) (a1_0 : ByteArray) (a1_1 : ByteArray) (a1_2 : Int) (a1_3 : (List ByteArray)) : Option Bool :=
  (m_slices_Contains_string_string a1_3 a0).bind fun y1 => some y1
def m_slices_IndexFunc_string_string__concert_common_1_l1 (a1_c0_0 : ByteArray) (a1_c0_1 : ByteArray) (a1_c0_2 : Int) (a1_c0_3 : (List ByteArray)) (i1 : Nat) (x2 : ByteArray) (u4 : Unit) : Option (Flow Unit Int) :=
  (m_concert_common_1 x2 a1_c0_0 a1_c0_1 a1_c0_2 a1_c0_3).bind fun y8 => ifB y8 (some (.ret (i1 : Int))) (some (.nxt ()))
def m_slices_IndexFunc_string_string__concert_common_1 (a0 : (List ByteArray)) (a1_c0_0 : ByteArray) (a1_c0_1 : ByteArray) (a1_c0_2 : Int) (a1_c0_3 : (List ByteArray)) : Option Int :=
  (rangeM (m_slices_IndexFunc_string_string__concert_common_1_l1 a1_c0_0 a1_c0_1 a1_c0_2 a1_c0_3) 0 a0 ()).bind fun f7 => Flow.fin f7 fun u4 => some (-1)
def m_slices_ContainsFunc_string_string__concert_common_1 (a0 : (List ByteArray)) (a1_c0_0 : ByteArray) (a1_c0_1 : ByteArray) (a1_c0_2 : Int) (a1_c0_3 : (List ByteArray)) : Option Bool :=
  (m_slices_IndexFunc_string_string__concert_common_1 a0 a1_c0_0 a1_c0_1 a1_c0_2 a1_c0_3).bind fun y1 => some (decide (y1 ≥ 0))
def m_concert_common (a0 : TItem) (a1 : TItem) : Option Bool :=
  (m_slices_ContainsFunc_string_string__concert_common_1 a0.Parts a1.Key a1.Places a1.Long a1.Parts).bind fun y3 => some y3
def m_concert_rankOf_l1 (a0 : TProgram) (i6 : Nat) (x7 : TItem) (u10 : (Int × (List ByteArray))) : Option (Flow (Int × (List ByteArray)) Tconcert_rank) :=
  (appM 16 u10.2 [x7.Key]).bind fun q17 => ifB (decide ((i6 : Int) > 0)) (ifB ((w64 ((i6 : Int) - 1)) != a0.Half) ((getI a0.Items (w64 ((i6 : Int) - 1))).bind fun e19 => (m_concert_common e19 x7).bind fun y20 => ifB y20 (some (.nxt (w64 (u10.1 + 1), q17))) (some (.nxt (u10.1, q17)))) (some (.nxt (u10.1, q17)))) (some (.nxt (u10.1, q17)))
def m_concert_rankOf (a0 : TProgram) : Option Tconcert_rank :=
  (m_concert_begins a0).bind fun y4 => (rangeM (m_concert_rankOf_l1 a0) 0 a0.Items (0, [])).bind fun f13 => Flow.fin f13 fun u10 => some (Tconcert_rank.mk y4.2 u10.1 u10.2)
def m_cmp_isNaN_string (a0 : ByteArray) : Option Bool :=
  some (!(a0.toList == a0.toList))
def m_cmp_Compare_string (a0 : ByteArray) (a1 : ByteArray) : Option Int :=
  (m_cmp_isNaN_string a0).bind fun y1 => (m_cmp_isNaN_string a1).bind fun y2 => ifB y1 (ifB y2 (some 0) (some (-1))) (ifB y2 (some 1) (ifB (Op.bytesLess a0.toList a1.toList) (some (-1)) (ifB (!(Op.bytesLess a0.toList a1.toList || a0.toList == a1.toList)) (some 1) (some 0))))
def m_slices_Compare_string_string_l1 (a1 : (List ByteArray)) (i1 : Nat) (x2 : ByteArray) (u4 : Unit) : Option (Flow Unit Int) :=
  ifB (decide ((i1 : Int) ≥ (a1.length : Int))) (some (.ret 1)) ((getI a1 (i1 : Int)).bind fun e8 => (m_cmp_Compare_string x2 e8).bind fun y9 => ifB (y9 != 0) (some (.ret y9)) (some (.nxt ())))
def m_slices_Compare_string_string (a0 : (List ByteArray)) (a1 : (List ByteArray)) : Option Int :=
  (rangeM (m_slices_Compare_string_string_l1 a1) 0 a0 ()).bind fun f7 => Flow.fin f7 fun u4 => ifB (decide ((a0.length : Int) < (a1.length : Int))) (some (-1)) (some 0)
def m_concert_rank_less (a0 : Tconcert_rank) (a1 : Tconcert_rank) : Option Bool :=
  ifB (a0.long_ != a1.long_) (some (decide (a0.long_ < a1.long_))) (ifB (a0.pairs != a1.pairs) (some (decide (a0.pairs < a1.pairs))) ((m_slices_Compare_string_string a0.keys a1.keys).bind fun y3 => some (decide (y3 < 0))))
def m_concert_Order_1 (a0_0 : (List TItem)) (a0_1 : Int) (a0_2 : Int) (a0_3 : Int) (a0_4 : Int) (a1_0 : Bool) (a2_0 : Int) (a2_1 : Int) (a2_2 : (List ByteArray)) : Option (Bool × Int × Int × (List ByteArray)) :=
  (m_concert_rankOf (TProgram.mk a0_0 a0_1 a0_2 a0_3 a0_4)).bind fun y1 => (ifB (!a1_0) (some (.inl true)) ((m_concert_rank_less y1 (Tconcert_rank.mk a2_0 a2_1 a2_2)).bind fun y7 => some (.inl y7)) : Option (Bool ⊕ (Bool × Int × Int × (List ByteArray)))).bind fun k6 => Sum.fin k6 fun u4 => ifB u4 (some (true, y1.long_, y1.pairs, y1.keys)) (some (a1_0, a2_0, a2_1, a2_2))
def m_concert_orders__al__concert_Order_1_l1 (a1 : Int) (a2_c0_1 : Int) (a2_c0_2 : Int) (a2_c0_3 : Int) (a2_c0_4 : Int) (self_ : (Int → (List TItem) → Int → Int → Int → Int → Bool → Int → Int → (List ByteArray) → Option ((List TItem) × Bool × Int × Int × (List ByteArray)))) (u3 : (Int × Bool × Int × Int × (List TItem) × (List ByteArray))) : Option (Flow (Int × Bool × Int × Int × (List TItem) × (List ByteArray)) ((List TItem) × Bool × Int × Int × (List ByteArray))) :=
  ifB (decide (u3.1 < (u3.2.2.2.2.1.length : Int))) ((getI u3.2.2.2.2.1 u3.1).bind fun e7 => (getI u3.2.2.2.2.1 a1).bind fun e8 => (getI u3.2.2.2.2.1 a1).bind fun e9 => (getI (u3.2.2.2.2.1.set a1.toNat e7) u3.1).bind fun e11 => (self_ (w64 (a1 + 1)) ((u3.2.2.2.2.1.set a1.toNat e7).set u3.1.toNat e8) a2_c0_1 a2_c0_2 a2_c0_3 a2_c0_4 u3.2.1 u3.2.2.1 u3.2.2.2.1 u3.2.2.2.2.2).bind fun y13 => (getI y13.1 u3.1).bind fun e16 => (getI y13.1 a1).bind fun e17 => (getI y13.1 a1).bind fun e18 => (getI (y13.1.set a1.toNat e16) u3.1).bind fun e20 => some (.nxt (w64 (u3.1 + 1), y13.2.1, y13.2.2.1, y13.2.2.2.1, ((y13.1.set a1.toNat e16).set u3.1.toNat e17), y13.2.2.2.2))) (some (.brk (u3.1, u3.2.1, u3.2.2.1, u3.2.2.2.1, u3.2.2.2.2.1, u3.2.2.2.2.2)))
def m_concert_orders__al__concert_Order_1_b (self_ : (Int → (List TItem) → Int → Int → Int → Int → Bool → Int → Int → (List ByteArray) → Option ((List TItem) × Bool × Int × Int × (List ByteArray)))) (a1 : Int) (a2_c0_0 : (List TItem)) (a2_c0_1 : Int) (a2_c0_2 : Int) (a2_c0_3 : Int) (a2_c0_4 : Int) (a2_c1_0 : Bool) (a2_c2_0 : Int) (a2_c2_1 : Int) (a2_c2_2 : (List ByteArray)) : Option ((List TItem) × Bool × Int × Int × (List ByteArray)) :=
  ifB (a1 == (a2_c0_0.length : Int)) ((m_concert_Order_1 a2_c0_0 a2_c0_1 a2_c0_2 a2_c0_3 a2_c0_4 a2_c1_0 a2_c2_0 a2_c2_1 a2_c2_2).bind fun y1 => some (a2_c0_0, y1.1, y1.2.1, y1.2.2.1, y1.2.2.2)) ((loopM (m_concert_orders__al__concert_Order_1_l1 a1 a2_c0_1 a2_c0_2 a2_c0_3 a2_c0_4 self_) (a1, a2_c1_0, a2_c2_0, a2_c2_1, a2_c0_0, a2_c2_2)).bind fun f6 => Flow.fin f6 fun u3 => some (u3.2.2.2.2.1, u3.2.1, u3.2.2.1, u3.2.2.2.1, u3.2.2.2.2.2))
def m_concert_orders__al__concert_Order_1 : Nat → Int → (List TItem) → Int → Int → Int → Int → Bool → Int → Int → (List ByteArray) → Option ((List TItem) × Bool × Int × Int × (List ByteArray))
  | 0 => fun _ _ _ _ _ _ _ _ _ _ => none
  | fu_ + 1 => m_concert_orders__al__concert_Order_1_b (m_concert_orders__al__concert_Order_1 fu_)
def m_concert_Order (a0 : TProgram) : Option ((List ByteArray) × Int × Int) :=
  (m_concert_CheckProgram a0).bind fun y2 => ifB (y2 != 0) (some ([], 0, y2)) (ifB (decide ((a0.Items.length : Int) > 7)) (some ([], 0, 2)) ((m_slices_Clone_api_Item_api_Item a0.Items).bind fun y5 => (m_concert_orders__al__concert_Order_1 FUEL 0 y5 a0.Change a0.Clap a0.Break a0.Half false 0 0 []).bind fun y11 => some (y11.2.2.2.2, y11.2.2.1, 0)))
def m_concert_itemAt_1 (a0 : TItem) (a1_0 : ByteArray) : Option Bool :=
  some (a0.Key.toList == a1_0.toList)
def m_slices_IndexFunc_api_Item_api_Item__concert_itemAt_1_l1 (a1_c0_0 : ByteArray) (i1 : Nat) (x2 : TItem) (u4 : Unit) : Option (Flow Unit Int) :=
  (m_concert_itemAt_1 x2 a1_c0_0).bind fun y8 => ifB y8 (some (.ret (i1 : Int))) (some (.nxt ()))
def m_slices_IndexFunc_api_Item_api_Item__concert_itemAt_1 (a0 : (List TItem)) (a1_c0_0 : ByteArray) : Option Int :=
  (rangeM (m_slices_IndexFunc_api_Item_api_Item__concert_itemAt_1_l1 a1_c0_0) 0 a0 ()).bind fun f7 => Flow.fin f7 fun u4 => some (-1)
def m_concert_itemAt (a0 : TProgram) (a1 : ByteArray) : Option Int :=
  (m_slices_IndexFunc_api_Item_api_Item__concert_itemAt_1 a0.Items a1).bind fun y3 => some y3
def m_slices_Clone_string_string (a0 : (List ByteArray)) : Option (List ByteArray) :=
  (appM 16 ([] : List ByteArray) a0).bind fun q3 => some q3
def m_concert_cloneItem (a0 : TItem) : Option TItem :=
  (m_slices_Clone_string_string a0.Parts).bind fun y3 => some (TItem.mk a0.Key a0.Places a0.Long y3)
def m_concert_Moved_l1 (a0 : TProgram) (a1 : (List ByteArray)) (i7 : Nat) (x8 : ByteArray) (u11 : (List TItem)) : Option (Flow (List TItem) (TProgram × Int)) :=
  (m_concert_itemAt a0 x8).bind fun y16 => ifB (decide (y16 < 0)) (some (.ret ((TProgram.mk [] 0 0 0 0), 8))) ((sliceI a1 0 (i7 : Int)).bind fun q18 => (m_slices_Contains_string_string q18 x8).bind fun y19 => ifB y19 (some (.ret ((TProgram.mk [] 0 0 0 0), 6))) ((getI a0.Items y16).bind fun e21 => (m_concert_cloneItem e21).bind fun y22 => (appM 64 u11 [y22]).bind fun q25 => some (.nxt q25)))
def m_concert_Moved (a0 : TProgram) (a1 : (List ByteArray)) : Option (TProgram × Int) :=
  (m_concert_CheckProgram a0).bind fun y3 => ifB (y3 != 0) (some ((TProgram.mk [] 0 0 0 0), y3)) (ifB ((a1.length : Int) != (a0.Items.length : Int)) (some ((TProgram.mk [] 0 0 0 0), 3)) ((rangeM (m_concert_Moved_l1 a0 a1) 0 a1 []).bind fun f14 => Flow.fin f14 fun u11 => some ((TProgram.mk u11 a0.Change a0.Clap a0.Break a0.Half), 0)))
def m_gleekeep2_spoil_string_l1  (i1 : Nat) (x2 : ByteArray) (u4 : (List ByteArray)) : Option (Flow (List ByteArray) (List ByteArray)) :=
  (getI u4 (i1 : Int)).bind fun e8 => some (.nxt (u4.set ((i1 : Int).toNat) ByteArray.empty))
def m_gleekeep2_spoil_string (a0 : (List ByteArray)) : Option (List ByteArray) :=
  (rangeM m_gleekeep2_spoil_string_l1 0 a0 a0).bind fun f7 => Flow.fin f7 fun u4 => some u4
def m_gleekeep2_spoil_api_Item_l1  (i2 : Nat) (x3 : TItem) (u5 : (List TItem)) : Option (Flow (List TItem) (List TItem)) :=
  (getI u5 (i2 : Int)).bind fun e9 => some (.nxt (u5.set ((i2 : Int).toNat) (TItem.mk ByteArray.empty ByteArray.empty 0 [])))
def m_gleekeep2_spoil_api_Item (a0 : (List TItem)) : Option (List TItem) :=
  (rangeM m_gleekeep2_spoil_api_Item_l1 0 a0 a0).bind fun f8 => Flow.fin f8 fun u5 => some u5
def m_kit_IsMoment (a0 : Int) : Option Bool :=
  (m_kit_Outside a0 0 345686399999).bind fun y1 => some (!y1)
def m_concert_fromFault (a0 : TProgram) (a1 : Int) : Option Int :=
  (m_concert_CheckProgram a0).bind fun y2 => ifB (y2 != 0) (some y2) ((m_concert_begins a0).bind fun y3 => ((m_kit_IsMoment a1).bind fun y8 => ifB (!y8) (some (.inl true)) (some (.inl (decide ((w64 (a1 + y3.2)) > 345686400000)))) : Option (Bool ⊕ Int)).bind fun k7 => Sum.fin k7 fun u5 => ifB u5 (some 1) (some 0))
def m_concert_Timetable_l1 (a1 : Int) (y4 : ((List Int) × Int)) (i6 : Nat) (x7 : TItem) (u10 : (List TTimed)) : Option (Flow (List TTimed) ((List TTimed) × Int)) :=
  (getI y4.1 (i6 : Int)).bind fun e16 => (getI y4.1 (i6 : Int)).bind fun e17 => (appM 32 u10 [(TTimed.mk x7.Key (TWindow.mk (w64 (a1 + e16)) (w64 ((w64 (a1 + e17)) + x7.Long))))]).bind fun q19 => some (.nxt q19)
def m_concert_Timetable (a0 : TProgram) (a1 : Int) : Option ((List TTimed) × Int) :=
  (m_concert_fromFault a0 a1).bind fun y2 => ifB (y2 != 0) (some ([], y2)) ((m_concert_begins a0).bind fun y4 => (rangeM (m_concert_Timetable_l1 a1 y4) 0 a0.Items []).bind fun f13 => Flow.fin f13 fun u10 => some (u10, 0))
def m_gleekeep2_spoil_api_Timed_l1  (i2 : Nat) (x3 : TTimed) (u5 : (List TTimed)) : Option (Flow (List TTimed) (List TTimed)) :=
  (getI u5 (i2 : Int)).bind fun e9 => some (.nxt (u5.set ((i2 : Int).toNat) (TTimed.mk ByteArray.empty (TWindow.mk 0 0))))
def m_gleekeep2_spoil_api_Timed (a0 : (List TTimed)) : Option (List TTimed) :=
  (rangeM m_gleekeep2_spoil_api_Timed_l1 0 a0 a0).bind fun f8 => Flow.fin f8 fun u5 => some u5
def m_concert_longOf (a0 : TProgram) (a1 : (List TItem)) : Option Int :=
  (m_concert_begins (TProgram.mk a1 a0.Change a0.Clap a0.Break (-1))).bind fun y2 => some y2.2
def m_cmp_isNaN_int (a0 : Int) : Option Bool :=
  some (a0 != a0)
def m_cmp_Compare_int (a0 : Int) (a1 : Int) : Option Int :=
  (m_cmp_isNaN_int a0).bind fun y1 => (m_cmp_isNaN_int a1).bind fun y2 => ifB y1 (ifB y2 (some 0) (some (-1))) (ifB y2 (some 1) (ifB (decide (a0 < a1)) (some (-1)) (ifB (decide (a0 > a1)) (some 1) (some 0))))
def m_slices_Compare_int_int_l1 (a1 : (List Int)) (i1 : Nat) (x2 : Int) (u4 : Unit) : Option (Flow Unit Int) :=
  ifB (decide ((i1 : Int) ≥ (a1.length : Int))) (some (.ret 1)) ((getI a1 (i1 : Int)).bind fun e8 => (m_cmp_Compare_int x2 e8).bind fun y9 => ifB (y9 != 0) (some (.ret y9)) (some (.nxt ())))
def m_slices_Compare_int_int (a0 : (List Int)) (a1 : (List Int)) : Option Int :=
  (rangeM (m_slices_Compare_int_int_l1 a1) 0 a0 ()).bind fun f7 => Flow.fin f7 fun u4 => ifB (decide ((a0.length : Int) < (a1.length : Int))) (some (-1)) (some 0)
def m_concert_Fitting_l2 (i8 : Nat) (i17 : Nat) (x18 : TItem) (u22 : ((List TItem) × (List Int))) : Option (Flow ((List TItem) × (List Int)) (Flow (Int × (List Int)) ((List ByteArray) × Int))) :=
  (shrM (i8 : Int) (i17 : Int)).bind fun z29 => ifB ((andI z29 1) == 1) ((appM 64 u22.1 [x18]).bind fun q31 => (appM 8 u22.2 [(i17 : Int)]).bind fun q35 => some (.nxt (q31, q35))) (some (.nxt (u22.1, u22.2)))
def m_concert_Fitting_l3 (a0 : TProgram) (i45 : Nat) (x46 : Int) (u49 : (List ByteArray)) : Option (Flow (List ByteArray) ((List ByteArray) × Int)) :=
  (getI a0.Items x46).bind fun e54 => (appM 16 u49 [e54.Key]).bind fun q56 => some (.nxt q56)
def m_concert_Fitting_l1 (a0 : TProgram) (a1 : Int) (i8 : Nat) (x9 : Nat) (u12 : (Int × (List Int))) : Option (Flow (Int × (List Int)) ((List ByteArray) × Int)) :=
  (rangeM (m_concert_Fitting_l2 i8) 0 a0.Items ([], [])).bind fun f25 => Flow.fin f25 fun u22 => (m_concert_longOf a0 u22.1).bind fun y39 => (ifB (decide (y39 ≤ a1)) (ifB (decide ((w64 ((u22.2.length : Int) - (u12.2.length : Int))) > 0)) (some (.inl true)) (ifB ((w64 ((u22.2.length : Int) - (u12.2.length : Int))) == 0) (ifB (decide (y39 > u12.1)) (some (.inl true)) (ifB (y39 == u12.1) ((m_slices_Compare_int_int u22.2 u12.2).bind fun y43 => some (.inl (decide (y43 < 0)))) (some (.inl false)))) (some (.inl false)))) (some (.inl false)) : Option (Bool ⊕ (Flow (Int × (List Int)) ((List ByteArray) × Int)))).bind fun k42 => Sum.fin k42 fun u40 => ifB u40 (some (.nxt (y39, u22.2))) (some (.nxt (u12.1, u12.2)))
def m_concert_Fitting (a0 : TProgram) (a1 : Int) : Option ((List ByteArray) × Int) :=
  (m_concert_CheckProgram a0).bind fun y2 => ifB (y2 != 0) (some ([], y2)) (ifB (decide ((a0.Items.length : Int) > 16)) (some ([], 2)) ((m_kit_Outside a1 0 5184000000).bind fun y5 => ifB y5 (some ([], 1)) ((shlM 1 (a0.Items.length : Int)).bind fun z7 => (rangeI z7).bind fun L59 => (rangeM (m_concert_Fitting_l1 a0 a1) 0 L59 (0, [])).bind fun f15 => Flow.fin f15 fun u12 => (rangeM (m_concert_Fitting_l3 a0) 0 u12.2 []).bind fun f52 => Flow.fin f52 fun u49 => some (u49, 0))))
def m_slices_Equal_string_string_l1 (a1 : (List ByteArray)) (i1 : Nat) (x2 : ByteArray) (u4 : Unit) : Option (Flow Unit Bool) :=
  (getI a1 (i1 : Int)).bind fun e8 => ifB (!(x2.toList == e8.toList)) (some (.ret false)) (some (.nxt ()))
def m_slices_Equal_string_string (a0 : (List ByteArray)) (a1 : (List ByteArray)) : Option Bool :=
  ifB ((a0.length : Int) != (a1.length : Int)) (some false) ((rangeM (m_slices_Equal_string_string_l1 a1) 0 a0 ()).bind fun f7 => Flow.fin f7 fun u4 => some true)
def m_gleeref2_SameItem (a0 : TItem) (a1 : TItem) : Option Bool :=
  ifB (a0.Key.toList == a1.Key.toList) (ifB (a0.Places.toList == a1.Places.toList) (ifB (a0.Long == a1.Long) ((m_slices_Equal_string_string a0.Parts a1.Parts).bind fun y3 => some y3) (some false)) (some false)) (some false)
def m_slices_EqualFunc_api_Item_api_Item_api_Item_api_Item__gleeref2_SameItem_l1 (a1 : (List TItem)) (i1 : Nat) (x2 : TItem) (u4 : Unit) : Option (Flow Unit Bool) :=
  (getI a1 (i1 : Int)).bind fun e9 => (m_gleeref2_SameItem x2 e9).bind fun y11 => ifB (!y11) (some (.ret false)) (some (.nxt ()))
def m_slices_EqualFunc_api_Item_api_Item_api_Item_api_Item__gleeref2_SameItem (a0 : (List TItem)) (a1 : (List TItem)) : Option Bool :=
  ifB ((a0.length : Int) != (a1.length : Int)) (some false) ((rangeM (m_slices_EqualFunc_api_Item_api_Item_api_Item_api_Item__gleeref2_SameItem_l1 a1) 0 a0 ()).bind fun f7 => Flow.fin f7 fun u4 => some true)
def m_gleeref2_SameProgram (a0 : TProgram) (a1 : TProgram) : Option Bool :=
  ifB (a0.Change == a1.Change) (ifB (a0.Clap == a1.Clap) (ifB (a0.Break == a1.Break) (ifB (a0.Half == a1.Half) ((m_slices_EqualFunc_api_Item_api_Item_api_Item_api_Item__gleeref2_SameItem a0.Items a1.Items).bind fun y3 => some y3) (some false)) (some false)) (some false)) (some false)
def m_slices_Index_int_int_l1 (a1 : Int) (i1 : Nat) (x2 : Int) (u4 : Unit) : Option (Flow Unit Int) :=
  ifB (a1 == x2) (some (.ret (i1 : Int))) (some (.nxt ()))
def m_slices_Index_int_int (a0 : (List Int)) (a1 : Int) : Option Int :=
  (rangeM (m_slices_Index_int_int_l1 a1) 0 a0 ()).bind fun f7 => Flow.fin f7 fun u4 => some (-1)
def m_slices_Contains_int_int (a0 : (List Int)) (a1 : Int) : Option Bool :=
  (m_slices_Index_int_int a0 a1).bind fun y1 => some (decide (y1 ≥ 0))
def m_piece_isUnit (a0 : Int) : Option Bool :=
  (m_slices_Contains_int_int [1, 2, 4, 8, 16] a0).bind fun y2 => some y2
def m_piece_barFault (a0 : TBar) : Option Int :=
  ((m_kit_Outside a0.Beats 1 16).bind fun y5 => ifB y5 (some (.inl true)) ((m_piece_isUnit a0.Unit).bind fun y6 => ifB (!y6) (some (.inl true)) (ifB (a0.Close != 0) ((m_kit_Outside a0.Close 2 9).bind fun y7 => ifB y7 (some (.inl true)) ((m_kit_Outside a0.Ending 0 9).bind fun y8 => some (.inl y8))) ((m_kit_Outside a0.Ending 0 9).bind fun y9 => some (.inl y9)))) : Option (Bool ⊕ Int)).bind fun k4 => Sum.fin k4 fun u2 => ifB u2 (some 1) (some 0)
def m_piece_rulesFault_l1 (a0 : (List TBar)) (i1 : Nat) (x2 : TBar) (u4 : Bool) : Option (Flow Bool Int) :=
  (m_piece_barFault x2).bind fun y9 => ifB (y9 != 0) (some (.ret y9)) ((ifB x2.Open (some (.inl u4)) (some (.inl false)) : Option (Bool ⊕ (Flow Bool Int))).bind fun k12 => Sum.fin k12 fun u10 => ifB u10 (some (.ret 16)) ((ifB (!x2.Open) (ifB (!u4) (ifB (x2.Close != 0) (some (.inl true)) (some (.inl (x2.Ending != 0)))) (some (.inl false))) (some (.inl false)) : Option (Bool ⊕ (Flow Bool Int))).bind fun k15 => Sum.fin k15 fun u13 => ifB u13 (some (.ret 16)) (ifB u4 ((getI a0 (w64 ((i1 : Int) - 1))).bind fun e16 => ifB (decide (x2.Ending < e16.Ending)) (some (.ret 16)) (ifB u4 (some (.nxt (x2.Close == 0))) (ifB x2.Open (some (.nxt (x2.Close == 0))) (some (.nxt false))))) (ifB u4 (some (.nxt (x2.Close == 0))) (ifB x2.Open (some (.nxt (x2.Close == 0))) (some (.nxt false)))))))
def m_piece_rulesFault (a0 : (List TBar)) : Option Int :=
  (rangeM (m_piece_rulesFault_l1 a0) 0 a0 false).bind fun f7 => Flow.fin f7 fun u4 => some 0
def m_piece_repeats_l3 (x22 : Tpiece_repeat) (i30 : Nat) (x31 : TBar) (u33 : Unit) : Option (Flow Unit (Flow Unit ((List Tpiece_repeat) × Bool))) :=
  (ifB (decide (x22.times > 1)) (some (.inl (decide (x31.Ending > x22.times)))) (some (.inl false)) : Option (Bool ⊕ (Flow Unit (Flow Unit ((List Tpiece_repeat) × Bool))))).bind fun k40 => Sum.fin k40 fun u38 => ifB u38 (some (.ret (.ret ([], false)))) (some (.nxt ()))
def m_piece_repeats_l2 (a0 : (List TBar)) (i21 : Nat) (x22 : Tpiece_repeat) (u24 : Unit) : Option (Flow Unit ((List Tpiece_repeat) × Bool)) :=
  (sliceI a0 x22.from_ x22.to_).bind fun q29 => (rangeM (m_piece_repeats_l3 x22) 0 q29 ()).bind fun f36 => Flow.fin f36 fun u33 => some (.nxt ())
def m_piece_repeats_l1  (i1 : Nat) (x2 : TBar) (u5 : (Int × (List Tpiece_repeat))) : Option (Flow (Int × (List Tpiece_repeat)) ((List Tpiece_repeat) × Bool)) :=
  (ifB x2.Open (some (.inl (i1 : Int))) (some (.inl u5.1)) : Option (Int ⊕ (Flow (Int × (List Tpiece_repeat)) ((List Tpiece_repeat) × Bool)))).bind fun k13 => Sum.fin k13 fun u11 => ifB (decide (u11 < 0)) ((appM 24 u5.2 [(Tpiece_repeat.mk (i1 : Int) (w64 ((i1 : Int) + 1)) 1)]).bind fun q15 => some (.nxt (u11, q15))) (ifB (decide (x2.Close > 0)) ((appM 24 u5.2 [(Tpiece_repeat.mk u11 (w64 ((i1 : Int) + 1)) x2.Close)]).bind fun q18 => some (.nxt ((-1), q18))) (some (.nxt (u11, u5.2))))
def m_piece_repeats (a0 : (List TBar)) : Option ((List Tpiece_repeat) × Bool) :=
  (rangeM m_piece_repeats_l1 0 a0 ((-1), [])).bind fun f8 => Flow.fin f8 fun u5 => (rangeM (m_piece_repeats_l2 a0) 0 u5.2 ()).bind fun f27 => Flow.fin f27 fun u24 => some (u5.2, decide (u5.1 < 0))
def m_piece_order_l3 (a0 : (List TBar)) (a2 : Int) (x2 : Tpiece_repeat) (u11 : (Int × (List Int))) (u16 : (Int × (List Int))) : Option (Flow (Int × (List Int)) (Flow (Int × (List Int)) (Flow (List Int) (List Int)))) :=
  (ifB (decide (u16.1 < x2.to_)) (some (.inl (decide ((u16.2.length : Int) ≤ a2)))) (some (.inl false)) : Option (Bool ⊕ (Flow (Int × (List Int)) (Flow (Int × (List Int)) (Flow (List Int) (List Int)))))).bind fun k23 => Sum.fin k23 fun u21 => ifB u21 (((getI a0 u16.1).bind fun e27 => ifB (e27.Ending == 0) (some (.inl true)) ((getI a0 u16.1).bind fun e28 => some (.inl (e28.Ending == u11.1))) : Option (Bool ⊕ (Flow (Int × (List Int)) (Flow (Int × (List Int)) (Flow (List Int) (List Int)))))).bind fun k26 => Sum.fin k26 fun u24 => ifB u24 ((appM 8 u16.2 [u16.1]).bind fun q30 => some (.nxt (w64 (u16.1 + 1), q30))) (some (.nxt (w64 (u16.1 + 1), u16.2)))) (some (.brk (u16.1, u16.2)))
def m_piece_order_l2 (a0 : (List TBar)) (a2 : Int) (x2 : Tpiece_repeat) (u11 : (Int × (List Int))) : Option (Flow (Int × (List Int)) (Flow (List Int) (List Int))) :=
  ifB (decide (u11.1 ≤ x2.times)) ((loopM (m_piece_order_l3 a0 a2 x2 u11) (x2.from_, u11.2)).bind fun f19 => Flow.fin f19 fun u16 => some (.nxt (w64 (u11.1 + 1), u16.2))) (some (.brk (u11.1, u11.2)))
def m_piece_order_l1 (a0 : (List TBar)) (a2 : Int) (i1 : Nat) (x2 : Tpiece_repeat) (u5 : (List Int)) : Option (Flow (List Int) (List Int)) :=
  (loopM (m_piece_order_l2 a0 a2 x2) (1, u5)).bind fun f14 => Flow.fin f14 fun u11 => some (.nxt u11.2)
def m_piece_order (a0 : (List TBar)) (a1 : (List Tpiece_repeat)) (a2 : Int) : Option (List Int) :=
  (rangeM (m_piece_order_l1 a0 a2) 0 a1 []).bind fun f8 => Flow.fin f8 fun u5 => some u5
def m_piece_CheckBars (a0 : (List TBar)) : Option Int :=
  ifB ((a0.length : Int) == 0) (some 8) (ifB (decide ((a0.length : Int) > 300)) (some 2) ((m_piece_rulesFault a0).bind fun y1 => ifB (y1 != 0) (some y1) ((m_piece_repeats a0).bind fun y2 => ifB (!y2.2) (some 16) ((m_piece_order a0 y2.1 2000).bind fun y4 => ifB (decide ((y4.length : Int) > 2000)) (some 2) (some 0)))))
def m_piece_played (a0 : (List TBar)) : Option (List Int) :=
  (m_piece_repeats a0).bind fun y1 => (m_piece_order a0 y1.1 2000).bind fun y3 => some y3
def m_piece_Order (a0 : (List TBar)) : Option ((List Int) × Int) :=
  (m_piece_CheckBars a0).bind fun y1 => ifB (y1 != 0) (some ([], y1)) ((m_piece_played a0).bind fun y3 => some (y3, 0))
def m_chord_isKind (a0 : Int) : Option Bool :=
  (m_kit_Outside a0 1 7).bind fun y1 => some (!y1)
def m_chord_above (a0 : Int) : Option (List Int) :=
  (getI [[], [0, 4, 7], [0, 3, 7], [0, 3, 6], [0, 4, 8], [0, 4, 7, 10], [0, 4, 7, 11], [0, 3, 7, 10]] a0).bind fun e12 => some e12
def m_chord_CheckChord (a0 : TChord) : Option Int :=
  (m_kit_Outside a0.Root 0 11).bind fun y2 => ifB y2 (some 1) ((m_chord_isKind a0.Kind).bind fun y3 => ifB (!y3) (some 4) ((m_chord_above a0.Kind).bind fun y4 => (m_kit_Outside a0.Turn 0 (w64 ((y4.length : Int) - 1))).bind fun y6 => ifB y6 (some 1) (some 0)))
def m_chord_rootWords  : Option (List ByteArray) :=
  some [(ByteArray.mk [99].toArray), (ByteArray.mk [99, 35].toArray), (ByteArray.mk [100].toArray), (ByteArray.mk [100, 35].toArray), (ByteArray.mk [101].toArray), (ByteArray.mk [102].toArray), (ByteArray.mk [102, 35].toArray), (ByteArray.mk [103].toArray), (ByteArray.mk [103, 35].toArray), (ByteArray.mk [97].toArray), (ByteArray.mk [97, 35].toArray), (ByteArray.mk [98].toArray)]
def m_chord_kindWords  : Option (List ByteArray) :=
  some [ByteArray.empty, (ByteArray.mk [109, 97, 106].toArray), (ByteArray.mk [109, 105, 110].toArray), (ByteArray.mk [100, 105, 109].toArray), (ByteArray.mk [97, 117, 103].toArray), (ByteArray.mk [55].toArray), (ByteArray.mk [109, 97, 106, 55].toArray), (ByteArray.mk [109, 105, 110, 55].toArray)]
def m_chord_Name (a0 : TChord) : Option (ByteArray × Int) :=
  (m_chord_CheckChord a0).bind fun y2 => ifB (y2 != 0) (some (ByteArray.empty, y2)) ((m_chord_rootWords.bind fun y6 => (getI y6 a0.Root).bind fun e8 => (catM e8 (ByteArray.mk [32].toArray)).bind fun c9 => m_chord_kindWords.bind fun y10 => (getI y10 a0.Kind).bind fun e12 => (catM c9 e12).bind fun c13 => some (.inl c13) : Option (ByteArray ⊕ (ByteArray × Int))).bind fun k5 => Sum.fin k5 fun u3 => ifB (decide (a0.Turn > 0)) ((m_strconv_Itoa a0.Turn).bind fun y18 => (catM (ByteArray.mk [47].toArray) y18).bind fun c19 => (catM u3 c19).bind fun c20 => some (c20, 0)) (some (u3, 0)))
def m_rehearse_flagNumber (a0 : Bool) : Option Int :=
  ifB a0 (some 1) (some 0)
def m_cmp_Or_int_l1  (i1 : Nat) (x2 : Int) (u4 : Unit) : Option (Flow Unit Int) :=
  ifB (x2 != 0) (some (.ret x2)) (some (.nxt ()))
def m_cmp_Or_int (a0 : (List Int)) : Option Int :=
  (rangeM m_cmp_Or_int_l1 0 a0 ()).bind fun f7 => Flow.fin f7 fun u4 => some 0
def m_rehearse_compareCame (a0 : TCame) (a1 : TCame) : Option Int :=
  (m_cmp_Compare_int a0.At a1.At).bind fun y3 => (m_strings_Compare a0.Singer a1.Singer).bind fun y4 => (m_rehearse_flagNumber a0.Left).bind fun y5 => (m_rehearse_flagNumber a1.Left).bind fun y6 => (m_cmp_Compare_int y5 y6).bind fun y7 => (m_cmp_Or_int [y3, y4, y7]).bind fun y9 => some y9
def m_rehearse_CheckCame_l1 (a0 : (List TCame)) (i1 : Nat) (x2 : TCame) (u4 : Unit) : Option (Flow Unit Int) :=
  (m_kit_IsMoment x2.At).bind fun y9 => ifB (!y9) (some (.ret 1)) ((m_kit_IsKey x2.Singer).bind fun y10 => ifB (!y10) (some (.ret 5)) (ifB (decide ((i1 : Int) > 0)) ((getI a0 (w64 ((i1 : Int) - 1))).bind fun e11 => (m_rehearse_compareCame e11 x2).bind fun y12 => ifB (decide (y12 ≥ 0)) (some (.ret 7)) (some (.nxt ()))) (some (.nxt ()))))
def m_rehearse_CheckCame (a0 : (List TCame)) : Option Int :=
  ifB (decide ((a0.length : Int) > 5000)) (some 2) ((rangeM (m_rehearse_CheckCame_l1 a0) 0 a0 ()).bind fun f7 => Flow.fin f7 fun u4 => some 0)
def m_rehearse_joined_l1  (i1 : Nat) (x2 : TWindow) (u5 : (List TWindow)) : Option (Flow (List TWindow) (List TWindow)) :=
  ifB (decide ((w64 ((u5.length : Int) - 1)) ≥ 0)) ((getI u5 (w64 ((u5.length : Int) - 1))).bind fun e11 => ifB (decide (x2.From ≤ e11.To)) ((getI u5 (w64 ((u5.length : Int) - 1))).bind fun e12 => (getI u5 (w64 ((u5.length : Int) - 1))).bind fun e13 => some (.nxt (u5.set ((w64 ((u5.length : Int) - 1)).toNat) (TWindow.mk e13.From (max e12.To x2.To))))) ((appM 16 u5 [x2]).bind fun q15 => some (.nxt q15))) ((appM 16 u5 [x2]).bind fun q18 => some (.nxt q18))
def m_rehearse_joined (a0 : (List TWindow)) : Option (List TWindow) :=
  (rangeM m_rehearse_joined_l1 0 a0 []).bind fun f8 => Flow.fin f8 fun u5 => some u5
def m_rehearse_presences_l3  (i50 : Nat) (x51 : ByteArray) (u57 : (List (ByteArray × (List TWindow)))) : Option (Flow (List (ByteArray × (List TWindow))) (List (ByteArray × (List TWindow)))) :=
  (m_rehearse_joined ((lkM u57 x51).getD [])).bind fun y62 => some (.nxt (putM u57 x51 y62))
def m_rehearse_presences_l2  (i33 : Nat) (x34 : (ByteArray × Int)) (u38 : (List (ByteArray × (List TWindow)))) : Option (Flow (List (ByteArray × (List TWindow))) (List (ByteArray × (List TWindow)))) :=
  (appM 16 ((lkM u38 x34.1).getD []) [(TWindow.mk x34.2 345686400000)]).bind fun q44 => some (.nxt (putM u38 x34.1 q44))
def m_rehearse_presences_l1  (i3 : Nat) (x4 : TCame) (u6 : ((List (ByteArray × Int)) × (List (ByteArray × (List TWindow))))) : Option (Flow ((List (ByteArray × Int)) × (List (ByteArray × (List TWindow)))) (List (ByteArray × (List TWindow)))) :=
  (ifB (!x4.Left) (some (.inl (!(hasM u6.1 x4.Singer)))) (some (.inl false)) : Option (Bool ⊕ (Flow ((List (ByteArray × Int)) × (List (ByteArray × (List TWindow)))) (List (ByteArray × (List TWindow)))))).bind fun k13 => Sum.fin k13 fun u11 => ifB u11 (some (.nxt (putM u6.1 x4.Singer x4.At, u6.2))) ((ifB x4.Left (some (.inl (hasM u6.1 x4.Singer))) (some (.inl false)) : Option (Bool ⊕ (Flow ((List (ByteArray × Int)) × (List (ByteArray × (List TWindow)))) (List (ByteArray × (List TWindow)))))).bind fun k18 => Sum.fin k18 fun u16 => ifB u16 (ifB (decide (((lkM u6.1 x4.Singer).getD 0) < x4.At)) ((appM 16 ((lkM u6.2 x4.Singer).getD []) [(TWindow.mk ((lkM u6.1 x4.Singer).getD 0) x4.At)]).bind fun q22 => some (.nxt (delM u6.1 x4.Singer, putM u6.2 x4.Singer q22))) (some (.nxt (delM u6.1 x4.Singer, u6.2)))) (some (.nxt (u6.1, u6.2))))
def m_rehearse_presences (a0 : (List TCame)) : Option (List (ByteArray × (List TWindow))) :=
  (rangeM m_rehearse_presences_l1 0 a0 ([], [])).bind fun f9 => Flow.fin f9 fun u6 => anyOrd u6.1 fun L41 => (rangeM m_rehearse_presences_l2 0 L41 u6.2).bind fun f69 => Flow.fin f69 fun u38 => anyOrd (u38.map Prod.fst) fun L60 => (rangeM m_rehearse_presences_l3 0 L60 u38).bind fun f68 => Flow.fin f68 fun u57 => some (canonM u57)
def m_kit_Has (a0 : TWindow) (a1 : Int) : Option Bool :=
  ifB (decide (a0.From ≤ a1)) (some (decide (a1 < a0.To))) (some false)
def m_rehearse_There_1 (a0 : TWindow) (a1_0 : Int) : Option Bool :=
  (m_kit_Has a0 a1_0).bind fun y2 => some y2
def m_slices_IndexFunc_api_Window_api_Window__rehearse_There_1_l1 (a1_c0_0 : Int) (i1 : Nat) (x2 : TWindow) (u4 : Unit) : Option (Flow Unit Int) :=
  (m_rehearse_There_1 x2 a1_c0_0).bind fun y8 => ifB y8 (some (.ret (i1 : Int))) (some (.nxt ()))
def m_slices_IndexFunc_api_Window_api_Window__rehearse_There_1 (a0 : (List TWindow)) (a1_c0_0 : Int) : Option Int :=
  (rangeM (m_slices_IndexFunc_api_Window_api_Window__rehearse_There_1_l1 a1_c0_0) 0 a0 ()).bind fun f7 => Flow.fin f7 fun u4 => some (-1)
def m_slices_ContainsFunc_api_Window_api_Window__rehearse_There_1 (a0 : (List TWindow)) (a1_c0_0 : Int) : Option Bool :=
  (m_slices_IndexFunc_api_Window_api_Window__rehearse_There_1 a0 a1_c0_0).bind fun y1 => some (decide (y1 ≥ 0))
noncomputable def m_slices_Sorted_string__maps_Keys_map_string_bool_string_bool_1 (a0_c0_0 : (List (ByteArray × Bool))) : Option (List ByteArray) :=
  if a0_c0_0.length ≤ 1000000000 then m_slices_Sort_string_string (a0_c0_0.map Prod.fst) else none
def m_rehearse_There_l1 (a1 : Int) (q12 : (List (ByteArray × (List TWindow)))) (i16 : Nat) (x17 : ByteArray) (u23 : (List (ByteArray × Bool))) : Option (Flow (List (ByteArray × Bool)) ((List ByteArray) × Int)) :=
  (m_slices_ContainsFunc_api_Window_api_Window__rehearse_There_1 ((lkM q12 x17).getD []) a1).bind fun y28 => ifB y28 (some (.nxt (putM u23 x17 true))) (some (.nxt u23))
def m_rehearse_There (a0 : (List TCame)) (a1 : Int) : Option ((List ByteArray) × Int) :=
  (m_rehearse_CheckCame a0).bind fun y2 => ifB (y2 != 0) (some ([], y2)) ((m_kit_IsMoment a1).bind fun y4 => ifB (!y4) (some ([], 1)) ((m_rehearse_presences a0).bind fun y7 => anyOrd y7 fun q12 => anyOrd (q12.map Prod.fst) fun L26 => (rangeM (m_rehearse_There_l1 a1 q12) 0 L26 []).bind fun f34 => Flow.fin f34 fun u23 => (m_slices_Sorted_string__maps_Keys_map_string_bool_string_bool_1 u23).bind fun y32 => some (y32, 0)))
def m_concert_Long (a0 : TProgram) : Option (Int × Int) :=
  (m_concert_CheckProgram a0).bind fun y2 => ifB (y2 != 0) (some (0, y2)) ((m_concert_begins a0).bind fun y3 => some (y3.2, 0))
def m_club_usesOf (a0 : Int) : Option Tclub_uses :=
  ifB (a0 == 1) (ifB (a0 == 4) (ifB (a0 == 1) (some (Tclub_uses.mk true true true (a0 == 5) (a0 == 7))) (some (Tclub_uses.mk true true (a0 == 3) (a0 == 5) (a0 == 7)))) (ifB (a0 == 5) (ifB (a0 == 1) (some (Tclub_uses.mk true true true (a0 == 5) (a0 == 7))) (some (Tclub_uses.mk true true (a0 == 3) (a0 == 5) (a0 == 7)))) (ifB (a0 == 1) (some (Tclub_uses.mk true (a0 == 6) true (a0 == 5) (a0 == 7))) (some (Tclub_uses.mk true (a0 == 6) (a0 == 3) (a0 == 5) (a0 == 7)))))) (ifB (a0 == 2) (ifB (a0 == 4) (ifB (a0 == 1) (some (Tclub_uses.mk true true true (a0 == 5) (a0 == 7))) (some (Tclub_uses.mk true true (a0 == 3) (a0 == 5) (a0 == 7)))) (ifB (a0 == 5) (ifB (a0 == 1) (some (Tclub_uses.mk true true true (a0 == 5) (a0 == 7))) (some (Tclub_uses.mk true true (a0 == 3) (a0 == 5) (a0 == 7)))) (ifB (a0 == 1) (some (Tclub_uses.mk true (a0 == 6) true (a0 == 5) (a0 == 7))) (some (Tclub_uses.mk true (a0 == 6) (a0 == 3) (a0 == 5) (a0 == 7)))))) (ifB (a0 == 3) (ifB (a0 == 4) (ifB (a0 == 1) (some (Tclub_uses.mk true true true (a0 == 5) (a0 == 7))) (some (Tclub_uses.mk true true (a0 == 3) (a0 == 5) (a0 == 7)))) (ifB (a0 == 5) (ifB (a0 == 1) (some (Tclub_uses.mk true true true (a0 == 5) (a0 == 7))) (some (Tclub_uses.mk true true (a0 == 3) (a0 == 5) (a0 == 7)))) (ifB (a0 == 1) (some (Tclub_uses.mk true (a0 == 6) true (a0 == 5) (a0 == 7))) (some (Tclub_uses.mk true (a0 == 6) (a0 == 3) (a0 == 5) (a0 == 7)))))) (ifB (a0 == 4) (ifB (a0 == 1) (some (Tclub_uses.mk (a0 == 5) true true (a0 == 5) (a0 == 7))) (some (Tclub_uses.mk (a0 == 5) true (a0 == 3) (a0 == 5) (a0 == 7)))) (ifB (a0 == 5) (ifB (a0 == 1) (some (Tclub_uses.mk (a0 == 5) true true (a0 == 5) (a0 == 7))) (some (Tclub_uses.mk (a0 == 5) true (a0 == 3) (a0 == 5) (a0 == 7)))) (ifB (a0 == 1) (some (Tclub_uses.mk (a0 == 5) (a0 == 6) true (a0 == 5) (a0 == 7))) (some (Tclub_uses.mk (a0 == 5) (a0 == 6) (a0 == 3) (a0 == 5) (a0 == 7))))))))
def m_club_formed (a0 : TAct) : Option Int :=
  (m_kit_IsKey a0.Site).bind fun y2 => ifB (!y2) (some 5) (((m_kit_Outside a0.No 1 1000000).bind fun y6 => ifB y6 (some (.inl true)) ((m_kit_IsMoment a0.At).bind fun y7 => some (.inl (!y7))) : Option (Bool ⊕ Int)).bind fun k5 => Sum.fin k5 fun u3 => ifB u3 (some 1) ((m_kit_Outside a0.Kind 1 7).bind fun y8 => ifB y8 (some 4) ((m_club_usesOf a0.Kind).bind fun y9 => (ifB (a0.Kind == 3) (some (.inl 1)) (some (.inl 0)) : Option (Int ⊕ Int)).bind fun k13 => Sum.fin k13 fun u11 => (ifB y9.who ((m_kit_IsKey a0.Who).bind fun y17 => ifB (!y17) (some (.inl true)) (ifB y9.motion ((m_kit_IsKey a0.Motion).bind fun y18 => ifB (!y18) (some (.inl true)) (ifB y9.undo ((m_kit_IsKey a0.Of).bind fun y19 => some (.inl (!y19))) (some (.inl false)))) (ifB y9.undo ((m_kit_IsKey a0.Of).bind fun y20 => some (.inl (!y20))) (some (.inl false))))) (ifB y9.motion ((m_kit_IsKey a0.Motion).bind fun y21 => ifB (!y21) (some (.inl true)) (ifB y9.undo ((m_kit_IsKey a0.Of).bind fun y22 => some (.inl (!y22))) (some (.inl false)))) (ifB y9.undo ((m_kit_IsKey a0.Of).bind fun y23 => some (.inl (!y23))) (some (.inl false)))) : Option (Bool ⊕ Int)).bind fun k16 => Sum.fin k16 fun u14 => ifB u14 (some 5) ((ifB y9.cents ((m_kit_Outside a0.Cents u11 1000000000).bind fun y27 => ifB y27 (some (.inl true)) (ifB y9.undo ((m_kit_Outside a0.Other 1 1000000).bind fun y28 => some (.inl y28)) (some (.inl false)))) (ifB y9.undo ((m_kit_Outside a0.Other 1 1000000).bind fun y29 => some (.inl y29)) (some (.inl false))) : Option (Bool ⊕ Int)).bind fun k26 => Sum.fin k26 fun u24 => ifB u24 (some 1) ((ifB (!y9.who) (ifB (!(a0.Who.toList == ByteArray.empty.toList)) (some (.inl true)) (ifB (!y9.motion) (ifB (!(a0.Motion.toList == ByteArray.empty.toList)) (some (.inl true)) (ifB (!y9.cents) (ifB (a0.Cents != 0) (some (.inl true)) (ifB (!y9.yes) (ifB a0.Yes (some (.inl true)) (ifB (!y9.undo) (ifB (!(a0.Of.toList == ByteArray.empty.toList)) (some (.inl true)) (some (.inl (a0.Other != 0)))) (some (.inl false)))) (ifB (!y9.undo) (ifB (!(a0.Of.toList == ByteArray.empty.toList)) (some (.inl true)) (some (.inl (a0.Other != 0)))) (some (.inl false))))) (ifB (!y9.yes) (ifB a0.Yes (some (.inl true)) (ifB (!y9.undo) (ifB (!(a0.Of.toList == ByteArray.empty.toList)) (some (.inl true)) (some (.inl (a0.Other != 0)))) (some (.inl false)))) (ifB (!y9.undo) (ifB (!(a0.Of.toList == ByteArray.empty.toList)) (some (.inl true)) (some (.inl (a0.Other != 0)))) (some (.inl false)))))) (ifB (!y9.cents) (ifB (a0.Cents != 0) (some (.inl true)) (ifB (!y9.yes) (ifB a0.Yes (some (.inl true)) (ifB (!y9.undo) (ifB (!(a0.Of.toList == ByteArray.empty.toList)) (some (.inl true)) (some (.inl (a0.Other != 0)))) (some (.inl false)))) (ifB (!y9.undo) (ifB (!(a0.Of.toList == ByteArray.empty.toList)) (some (.inl true)) (some (.inl (a0.Other != 0)))) (some (.inl false))))) (ifB (!y9.yes) (ifB a0.Yes (some (.inl true)) (ifB (!y9.undo) (ifB (!(a0.Of.toList == ByteArray.empty.toList)) (some (.inl true)) (some (.inl (a0.Other != 0)))) (some (.inl false)))) (ifB (!y9.undo) (ifB (!(a0.Of.toList == ByteArray.empty.toList)) (some (.inl true)) (some (.inl (a0.Other != 0)))) (some (.inl false))))))) (ifB (!y9.motion) (ifB (!(a0.Motion.toList == ByteArray.empty.toList)) (some (.inl true)) (ifB (!y9.cents) (ifB (a0.Cents != 0) (some (.inl true)) (ifB (!y9.yes) (ifB a0.Yes (some (.inl true)) (ifB (!y9.undo) (ifB (!(a0.Of.toList == ByteArray.empty.toList)) (some (.inl true)) (some (.inl (a0.Other != 0)))) (some (.inl false)))) (ifB (!y9.undo) (ifB (!(a0.Of.toList == ByteArray.empty.toList)) (some (.inl true)) (some (.inl (a0.Other != 0)))) (some (.inl false))))) (ifB (!y9.yes) (ifB a0.Yes (some (.inl true)) (ifB (!y9.undo) (ifB (!(a0.Of.toList == ByteArray.empty.toList)) (some (.inl true)) (some (.inl (a0.Other != 0)))) (some (.inl false)))) (ifB (!y9.undo) (ifB (!(a0.Of.toList == ByteArray.empty.toList)) (some (.inl true)) (some (.inl (a0.Other != 0)))) (some (.inl false)))))) (ifB (!y9.cents) (ifB (a0.Cents != 0) (some (.inl true)) (ifB (!y9.yes) (ifB a0.Yes (some (.inl true)) (ifB (!y9.undo) (ifB (!(a0.Of.toList == ByteArray.empty.toList)) (some (.inl true)) (some (.inl (a0.Other != 0)))) (some (.inl false)))) (ifB (!y9.undo) (ifB (!(a0.Of.toList == ByteArray.empty.toList)) (some (.inl true)) (some (.inl (a0.Other != 0)))) (some (.inl false))))) (ifB (!y9.yes) (ifB a0.Yes (some (.inl true)) (ifB (!y9.undo) (ifB (!(a0.Of.toList == ByteArray.empty.toList)) (some (.inl true)) (some (.inl (a0.Other != 0)))) (some (.inl false)))) (ifB (!y9.undo) (ifB (!(a0.Of.toList == ByteArray.empty.toList)) (some (.inl true)) (some (.inl (a0.Other != 0)))) (some (.inl false)))))) : Option (Bool ⊕ Int)).bind fun k32 => Sum.fin k32 fun u30 => ifB u30 (some 3) (some 0))))))
def m_club_compare (a0 : TAct) (a1 : TAct) : Option Int :=
  (m_cmp_Compare_int a0.At a1.At).bind fun y3 => (m_strings_Compare a0.Site a1.Site).bind fun y4 => (m_cmp_Compare_int a0.No a1.No).bind fun y5 => (m_cmp_Or_int [y3, y4, y5]).bind fun y7 => some y7
def m_club_CheckActs_l2  (i13 : Nat) (x14 : TAct) (u16 : (List (Tclub_own × Bool))) : Option (Flow (List (Tclub_own × Bool)) Int) :=
  ifB ((lkM u16 (Tclub_own.mk x14.Site x14.No)).getD false) (some (.ret 6)) (some (.nxt (putM u16 (Tclub_own.mk x14.Site x14.No) true)))
def m_club_CheckActs_l1 (a0 : (List TAct)) (i1 : Nat) (x2 : TAct) (u4 : Unit) : Option (Flow Unit Int) :=
  (m_club_formed x2).bind fun y9 => ifB (y9 != 0) (some (.ret y9)) (ifB (decide ((i1 : Int) > 0)) ((getI a0 (w64 ((i1 : Int) - 1))).bind fun e10 => (m_club_compare e10 x2).bind fun y11 => ifB (decide (y11 ≥ 0)) (some (.ret 7)) (some (.nxt ()))) (some (.nxt ())))
def m_club_CheckActs (a0 : (List TAct)) : Option Int :=
  ifB (decide ((a0.length : Int) > 2000)) (some 2) ((rangeM (m_club_CheckActs_l1 a0) 0 a0 ()).bind fun f7 => Flow.fin f7 fun u4 => (rangeM m_club_CheckActs_l2 0 a0 []).bind fun f19 => Flow.fin f19 fun u16 => some 0)
def m_club_askedFault (a0 : (List TAct)) (a1 : Int) : Option Int :=
  (m_club_CheckActs a0).bind fun y1 => ifB (y1 != 0) (some y1) ((m_kit_IsMoment a1).bind fun y2 => ifB (!y2) (some 1) (some 0))
def m_slices_Reverse_int_int_l1  (u1 : (Int × Int × (List Int))) : Option (Flow (Int × Int × (List Int)) (List Int)) :=
  ifB (decide (u1.1 < u1.2.1)) ((getI u1.2.2 u1.2.1).bind fun e5 => (getI u1.2.2 u1.1).bind fun e6 => (getI u1.2.2 u1.1).bind fun e7 => (getI (u1.2.2.set u1.1.toNat e5) u1.2.1).bind fun e8 => some (.nxt (w64 (u1.1 + 1), w64 (u1.2.1 - 1), ((u1.2.2.set u1.1.toNat e5).set u1.2.1.toNat e6)))) (some (.brk (u1.1, u1.2.1, u1.2.2)))
def m_slices_Reverse_int_int (a0 : (List Int)) : Option (List Int) :=
  (loopM m_slices_Reverse_int_int_l1 (0, w64 ((a0.length : Int) - 1), a0)).bind fun f4 => Flow.fin f4 fun u1 => some u1.2.2
def m_club_counting_l1 (a1 : Int) (i6 : Nat) (x7 : TAct) (u13 : ((List (Tclub_own × Bool)) × (List Int))) : Option (Flow ((List (Tclub_own × Bool)) × (List Int)) (List Int)) :=
  (ifB (decide (x7.At > a1)) (some (.inl true)) (some (.inl ((lkM u13.1 (Tclub_own.mk x7.Site x7.No)).getD false))) : Option (Bool ⊕ (Flow ((List (Tclub_own × Bool)) × (List Int)) (List Int)))).bind fun k21 => Sum.fin k21 fun u19 => ifB u19 (some (.nxt (u13.1, u13.2))) ((appM 8 u13.2 [(i6 : Int)]).bind fun q23 => ifB (x7.Kind == 7) (some (.nxt (putM u13.1 (Tclub_own.mk x7.Of x7.Other) true, q23))) (some (.nxt (u13.1, q23))))
def m_club_counting (a0 : (List TAct)) (a1 : Int) : Option (List Int) :=
  (rangeB (m_club_counting_l1 a1) a0 ([], [])).bind fun f16 => Flow.fin f16 fun u13 => (m_slices_Reverse_int_int u13.2).bind fun y29 => some y29
def m_club_books_isMember (a0_0 : Int) (a0_1 : (List (ByteArray × (List Tclub_stay)))) (a0_2 : (List (ByteArray × Int))) (a0_3 : (List (ByteArray × (Bool × (List (ByteArray × Bool)) × (List ByteArray))))) (a0_4 : (List Int)) (a1 : ByteArray) : Option Bool :=
  ifB (decide ((((lkM a0_1 a1).getD []).length : Int) > 0)) ((getI ((lkM a0_1 a1).getD []) (w64 ((((lkM a0_1 a1).getD []).length : Int) - 1))).bind fun e1 => some (decide (e1.till < 0))) (some false)
def m_club_books_isOpen (a0_0 : Int) (a0_1 : (List (ByteArray × (List Tclub_stay)))) (a0_2 : (List (ByteArray × Int))) (a0_3 : (List (ByteArray × (Bool × (List (ByteArray × Bool)) × (List ByteArray))))) (a0_4 : (List Int)) (a1 : ByteArray) : Option Bool :=
  optB (lkM a0_3 a1) (some false) (fun t4 => some (!t4.1))
def m_club_books_permits (a0_0 : Int) (a0_1 : (List (ByteArray × (List Tclub_stay)))) (a0_2 : (List (ByteArray × Int))) (a0_3 : (List (ByteArray × (Bool × (List (ByteArray × Bool)) × (List ByteArray))))) (a0_4 : (List Int)) (a1 : TAct) : Option Bool :=
  ifB (a1.Kind == 1) ((m_club_books_isMember a0_0 a0_1 a0_2 a0_3 a0_4 a1.Who).bind fun y2 => some (!y2)) (ifB (a1.Kind == 2) ((m_club_books_isMember a0_0 a0_1 a0_2 a0_3 a0_4 a1.Who).bind fun y3 => some y3) (ifB (a1.Kind == 4) (optB (lkM a0_3 a1.Motion) (some true) (fun t7 => some false)) (ifB (a1.Kind == 5) ((m_club_books_isMember a0_0 a0_1 a0_2 a0_3 a0_4 a1.Who).bind fun y15 => ifB y15 ((m_club_books_isOpen a0_0 a0_1 a0_2 a0_3 a0_4 a1.Motion).bind fun y16 => some y16) (some false)) (ifB (a1.Kind == 6) ((m_club_books_isOpen a0_0 a0_1 a0_2 a0_3 a0_4 a1.Motion).bind fun y17 => some y17) (some true)))))
noncomputable def m_slices_Sorted_string__maps_Keys_map_string_club_stay_string_club_stay_1 (a0_c0_0 : (List (ByteArray × (List Tclub_stay)))) : Option (List ByteArray) :=
  if a0_c0_0.length ≤ 1000000000 then m_slices_Sort_string_string (a0_c0_0.map Prod.fst) else none
def m_club_books_members_l1 (a0_0 : Int) (a0_1 : (List (ByteArray × (List Tclub_stay)))) (a0_2 : (List (ByteArray × Int))) (a0_3 : (List (ByteArray × (Bool × (List (ByteArray × Bool)) × (List ByteArray))))) (a0_4 : (List Int)) (i4 : Nat) (x5 : ByteArray) (u8 : (List ByteArray)) : Option (Flow (List ByteArray) (List ByteArray)) :=
  (m_club_books_isMember a0_0 a0_1 a0_2 a0_3 a0_4 x5).bind fun y13 => ifB y13 ((appM 16 u8 [x5]).bind fun q15 => some (.nxt q15)) (some (.nxt u8))
def m_club_books_members (a0_0 : Int) (a0_1 : (List (ByteArray × (List Tclub_stay)))) (a0_2 : (List (ByteArray × Int))) (a0_3 : (List (ByteArray × (Bool × (List (ByteArray × Bool)) × (List ByteArray))))) (a0_4 : (List Int)) : Option (List ByteArray) :=
  (m_slices_Sorted_string__maps_Keys_map_string_club_stay_string_club_stay_1 a0_1).bind fun y2 => (rangeM (m_club_books_members_l1 a0_0 a0_1 a0_2 a0_3 a0_4) 0 y2 []).bind fun f11 => Flow.fin f11 fun u8 => some u8
def m_club_books_act (a0_0 : Int) (a0_1 : (List (ByteArray × (List Tclub_stay)))) (a0_2 : (List (ByteArray × Int))) (a0_3 : (List (ByteArray × (Bool × (List (ByteArray × Bool)) × (List ByteArray))))) (a0_4 : (List Int)) (a1 : TAct) : Option ((List (ByteArray × (List Tclub_stay))) × (List (ByteArray × Int)) × (List (ByteArray × (Bool × (List (ByteArray × Bool)) × (List ByteArray))))) :=
  ifB (a1.Kind == 1) ((appM 24 ((lkM a0_1 a1.Who).getD []) [(Tclub_stay.mk a1.At (-1) a1.Cents)]).bind fun q4 => some (putM a0_1 a1.Who q4, a0_2, a0_3)) (ifB (a1.Kind == 2) ((getI ((lkM a0_1 a1.Who).getD []) (w64 ((((lkM a0_1 a1.Who).getD []).length : Int) - 1))).bind fun e13 => some (repM a0_1 a1.Who (((lkM a0_1 a1.Who).getD []).set ((w64 ((((lkM a0_1 a1.Who).getD []).length : Int) - 1)).toNat) (Tclub_stay.mk e13.since a1.At e13.cents)), a0_2, a0_3)) (ifB (a1.Kind == 3) (some (a0_1, putM a0_2 a1.Who (w64 (((lkM a0_2 a1.Who).getD 0) + a1.Cents)), a0_3)) (ifB (a1.Kind == 4) (some (a0_1, a0_2, putM a0_3 a1.Motion (false, ([] : (List (ByteArray × Bool))), ([] : List ByteArray)))) (ifB (a1.Kind == 5) (optB (lkM a0_3 a1.Motion) (none) (fun t30 => some (a0_1, a0_2, repM a0_3 a1.Motion (t30.1, (putM t30.2.1 a1.Who a1.Yes), t30.2.2)))) (ifB (a1.Kind == 6) (optB (lkM a0_3 a1.Motion) ((m_club_books_members a0_0 a0_1 a0_2 a0_3 a0_4).bind fun y45 => none) (fun t43 => (m_club_books_members a0_0 a0_1 a0_2 a0_3 a0_4).bind fun y53 => some (a0_1, a0_2, repM a0_3 a1.Motion (true, t43.2.1, y53)))) (some (a0_1, a0_2, a0_3)))))))
def m_club_booksAt_l1 (a0 : (List TAct)) (a1 : Int) (i7 : Nat) (x8 : Int) (u11 : ((List (ByteArray × (Bool × (List (ByteArray × Bool)) × (List ByteArray)))) × (List (ByteArray × Int)) × (List (ByteArray × (List Tclub_stay))) × (List Int))) : Option (Flow ((List (ByteArray × (Bool × (List (ByteArray × Bool)) × (List ByteArray)))) × (List (ByteArray × Int)) × (List (ByteArray × (List Tclub_stay))) × (List Int)) (Int × (List (ByteArray × (List Tclub_stay))) × (List (ByteArray × Int)) × (List (ByteArray × (Bool × (List (ByteArray × Bool)) × (List ByteArray)))) × (List Int))) :=
  (getI a0 x8).bind fun e16 => (m_club_books_permits a1 u11.2.2.1 u11.2.1 u11.1 u11.2.2.2 e16).bind fun y17 => ifB y17 ((getI a0 x8).bind fun e18 => (m_club_books_act a1 u11.2.2.1 u11.2.1 u11.1 u11.2.2.2 e18).bind fun y19 => some (.nxt (y19.2.2, y19.2.1, y19.1, u11.2.2.2))) ((appM 8 u11.2.2.2 [x8]).bind fun q29 => some (.nxt (u11.1, u11.2.1, u11.2.2.1, q29)))
def m_club_booksAt (a0 : (List TAct)) (a1 : Int) : Option (Int × (List (ByteArray × (List Tclub_stay))) × (List (ByteArray × Int)) × (List (ByteArray × (Bool × (List (ByteArray × Bool)) × (List ByteArray)))) × (List Int)) :=
  (m_club_counting a0 a1).bind fun y5 => (rangeM (m_club_booksAt_l1 a0 a1) 0 y5 ([], [], [], [])).bind fun f14 => Flow.fin f14 fun u11 => some (a1, u11.2.2.1, u11.2.1, u11.1, u11.2.2.2)
def m_club_checkedAt (a0 : (List TAct)) (a1 : Int) : Option ((Option (Int × (List (ByteArray × (List Tclub_stay))) × (List (ByteArray × Int)) × (List (ByteArray × (Bool × (List (ByteArray × Bool)) × (List ByteArray)))) × (List Int))) × Int) :=
  (m_club_askedFault a0 a1).bind fun y1 => ifB (y1 != 0) (some (none, y1)) ((m_club_booksAt a0 a1).bind fun y2 => some (some (y2.1, y2.2.1, y2.2.2.1, y2.2.2.2.1, y2.2.2.2.2), 0))
def m_club_Members (a0 : (List TAct)) (a1 : Int) : Option ((List ByteArray) × Int) :=
  (m_club_checkedAt a0 a1).bind fun y1 => optB y1.1 (ifB (y1.2 != 0) (some ([], y1.2)) (none)) (fun t2 => ifB (y1.2 != 0) (some ([], y1.2)) ((m_club_books_members t2.1 t2.2.1 t2.2.2.1 t2.2.2.2.1 t2.2.2.2.2).bind fun y33 => some (y33, 0)))
def m_gleekeep2_errs_l1  (i1 : Nat) (x2 : Int) (u4 : Unit) : Option (Flow Unit Int) :=
  ifB (x2 != 0) (some (.ret x2)) (some (.nxt ()))
def m_gleekeep2_errs (a0 : (List Int)) : Option Int :=
  (rangeM m_gleekeep2_errs_l1 0 a0 ()).bind fun f7 => Flow.fin f7 fun u4 => some 0
def m_gleekeep2_ready  : Option Bool :=
  (m_piece_Order [(TBar.mk 1 4 2 0 true)]).bind fun y2 => (m_chord_Name (TChord.mk 1 2 1)).bind fun y4 => (m_rehearse_There [(TCame.mk 5 (ByteArray.mk [97, 110, 110].toArray) false)] 6).bind fun y6 => (m_concert_Long (TProgram.mk [(TItem.mk (ByteArray.mk [97].toArray) (ByteArray.mk [112].toArray) 7 [(ByteArray.mk [97, 108, 116, 111].toArray)])] 0 0 0 (-1))).bind fun y10 => (m_club_Members [(TAct.mk (ByteArray.mk [97].toArray) 1 0 1 (ByteArray.mk [97, 110, 110].toArray) ByteArray.empty 0 false ByteArray.empty 0)] 0).bind fun y12 => (m_gleekeep2_errs [y2.2, y4.2, y6.2, y10.2, y12.2]).bind fun y15 => ifB (y15 == 0) (ifB ((y2.1.length : Int) == 2) (ifB (y4.1.toList == (ByteArray.mk [99, 35, 32, 109, 105, 110, 47, 49].toArray).toList) (ifB ((y6.1.length : Int) == 1) (ifB (y10.1 == 7) (some ((y12.1.length : Int) == 1)) (some false)) (some false)) (some false)) (some false)) (some false)
def m_gleekeep2_ConcertsStay_l1  (i17 : Nat) (x18 : TItem) (u20 : (List TItem)) : Option (Flow (List TItem) Bool) :=
  (getI u20 (i17 : Int)).bind fun e25 => (m_gleekeep2_spoil_string e25.Parts).bind fun y28 => some (.nxt (u20.set ((i17 : Int).toNat) (TItem.mk e25.Key e25.Places e25.Long y28)))
def m_gleekeep2_ConcertsStay (a0 : (List Int)) : Option Bool :=
  (m_gleemake_Stream_RightProgram a0 0 5).bind fun y3 => (m_gleemake_Stream_RightProgram a0 0 5).bind fun y6 => (m_concert_Order y3.1).bind fun y11 => (m_concert_Moved y3.1 y11.1).bind fun y13 => (rangeM m_gleekeep2_ConcertsStay_l1 0 y13.1.Items y13.1.Items).bind fun f23 => Flow.fin f23 fun u20 => (m_gleekeep2_spoil_api_Item u20).bind fun y31 => (m_concert_Timetable y3.1 0).bind fun y33 => (m_gleekeep2_spoil_api_Timed y33.1).bind fun y35 => (m_concert_Fitting y3.1 300).bind fun y36 => (m_gleekeep2_spoil_string y36.1).bind fun y38 => (m_gleeref2_SameProgram y3.1 y6.1).bind fun y39 => ifB y39 (m_gleekeep2_ready.bind fun y40 => some y40) (some false)
end
end Go.G
