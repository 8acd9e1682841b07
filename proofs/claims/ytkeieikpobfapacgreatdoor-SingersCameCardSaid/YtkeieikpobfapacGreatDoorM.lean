/- The models. Written by program. -/
import Derived.Test.YtkeieikpobfapacGreatDoorXM
namespace Go.G
open Go Go.J
set_option linter.unusedVariables false
noncomputable section
structure Tgleemake_Stream where
  L : (List Int)
  at_ : Int
  deriving DecidableEq, Inhabited
structure TCame where
  At : Int
  Singer : ByteArray
  Left : Bool
  deriving DecidableEq, Inhabited
structure TWindow where
  From : Int
  To : Int
  deriving DecidableEq, Inhabited
def m_gleemake_Below (a0 : Int) (a1 : Int) : Option Int :=
  ifB (decide (a1 < 1)) (some 0) ((remM a0 a1).bind fun z1 => ifB (decide (z1 < 0)) (some (w64 (z1 + a1))) (some z1))
def m_gleemake_Stream_Next (a0_0 : (List Int)) (a0_1 : Int) (a1 : Int) : Option (Int × Int) :=
  ifB ((a0_0.length : Int) == 0) ((m_gleemake_Below (w64 ((w64 (a0_1 + 1)) * 7919)) a1).bind fun y1 => some (y1, w64 (a0_1 + 1))) ((remM (w64 ((w64 (a0_1 + 1)) - 1)) (a0_0.length : Int)).bind fun z2 => (quoM (w64 ((w64 (a0_1 + 1)) - 1)) (a0_0.length : Int)).bind fun z3 => (getI a0_0 z2).bind fun e4 => (m_gleemake_Below e4 1073741824).bind fun y5 => (m_gleemake_Below (w64 (y5 + (w64 (z3 * (w64 (7919 + z2)))))) a1).bind fun y6 => some (y6, w64 (a0_1 + 1)))
def m_gleemake_Stream_Range (a0_0 : (List Int)) (a0_1 : Int) (a1 : Int) (a2 : Int) : Option (Int × Int) :=
  ifB (decide (a2 < a1)) (some (a1, a0_1)) ((m_gleemake_Stream_Next a0_0 a0_1 (w64 ((w64 (a2 - a1)) + 1))).bind fun y1 => some (w64 (a1 + y1.1), y1.2))
def m_gleemake_Stream_Pick (a0_0 : (List Int)) (a0_1 : Int) (a1 : (List Int)) : Option (Int × Int) :=
  (m_gleemake_Stream_Next a0_0 a0_1 (a1.length : Int)).bind fun y1 => (getI a1 y1.1).bind fun e2 => some (e2, y1.2)
def m_gleemake_Stream_Some (a0_0 : (List Int)) (a0_1 : Int) (a1 : (List ByteArray)) : Option (ByteArray × Int) :=
  (m_gleemake_Stream_Next a0_0 a0_1 (a1.length : Int)).bind fun y1 => (getI a1 y1.1).bind fun e2 => some (e2, y1.2)
def m_gleemake_Stream_Flip (a0_0 : (List Int)) (a0_1 : Int) (a1 : Int) : Option (Bool × Int) :=
  (m_gleemake_Stream_Next a0_0 a0_1 a1).bind fun y1 => some (y1.1 == 0, y1.2)
def m_gleemake_Stream_Odd (a0_0 : (List Int)) (a0_1 : Int) (a1 : Int) (a2 : Int) : Option (Int × Int) :=
  (m_gleemake_Stream_Flip a0_0 a0_1 12).bind fun y1 => ifB y1.1 ((m_gleemake_Stream_Pick a0_0 y1.2 [w64 (a1 - 1), w64 (a2 + 1), a1, a2, (-1099511627776), 1099511627776]).bind fun y3 => some (y3.1, y3.2)) ((m_gleemake_Stream_Range a0_0 y1.2 a1 a2).bind fun y4 => some (y4.1, y4.2))
def m_slices_Grow_api_Came_api_Came__nil (a1 : Int) : Option (List TCame) :=
  ifB (decide (a1 < 0)) (none) (ifB (decide ((w64 (a1 - (w64 (0 - 0)))) > 0)) ((sliceI ([] : List TCame) 0 0).bind fun q2 => (growM 32 (w64 (a1 - (w64 (0 - 0))))).bind fun u3 => some []) (some []))
def m_slices_Concat_api_Came_api_Came_l2  (i10 : Nat) (x11 : (List TCame)) (u13 : (List TCame)) : Option (Flow (List TCame) (List TCame)) :=
  (appM 32 u13 x11).bind fun q18 => some (.nxt q18)
def m_slices_Concat_api_Came_api_Came_l1  (i1 : Nat) (x2 : (List TCame)) (u4 : Int) : Option (Flow Int (List TCame)) :=
  ifB (decide ((w64 (u4 + (x2.length : Int))) < 0)) (none) (some (.nxt (w64 (u4 + (x2.length : Int)))))
def m_slices_Concat_api_Came_api_Came (a0 : (List (List TCame))) : Option (List TCame) :=
  (rangeM m_slices_Concat_api_Came_api_Came_l1 0 a0 0).bind fun f7 => Flow.fin f7 fun u4 => (m_slices_Grow_api_Came_api_Came__nil u4).bind fun y8 => (rangeM m_slices_Concat_api_Came_api_Came_l2 0 a0 y8).bind fun f16 => Flow.fin f16 fun u13 => some u13
def m_gleeref2_sign (a0 : Int) : Option Int :=
  ifB (decide (a0 < 0)) (some (-1)) (ifB (decide (a0 > 0)) (some 1) (some 0))
def m_gleeref2_cameOrder (a0 : TCame) (a1 : TCame) : Option Int :=
  ifB (a0.At != a1.At) ((m_gleeref2_sign (w64 (a0.At - a1.At))).bind fun y3 => some y3) (ifB (!(a0.Singer.toList == a1.Singer.toList)) ((m_strings_Compare a0.Singer a1.Singer).bind fun y4 => some y4) (ifB (a0.Left == a1.Left) (some 0) (ifB a1.Left (some (-1)) (some 1))))
def m_slices_SortFunc_api_Came_api_Came__gleeref2_cameOrder (a0 : (List TCame)) : Option (List TCame) :=
  sortFM m_gleeref2_cameOrder a0
def m_slices_Compact_api_Came_api_Came_l2 (a0 : (List TCame)) (u1 : Int) (u8 : (Int × Int × (List TCame))) : Option (Flow (Int × Int × (List TCame)) (Flow Int (List TCame))) :=
  (sliceI u8.2.2 u1 (a0.length : Int)).bind fun q12 => ifB (decide (u8.2.1 < (q12.length : Int))) ((getI q12 u8.2.1).bind fun e13 => (getI q12 (w64 (u8.2.1 - 1))).bind fun e14 => ifB (!(decide (e13 = e14))) ((getI q12 u8.2.1).bind fun e15 => (getI u8.2.2 u8.1).bind fun e16 => some (.nxt (w64 (u8.1 + 1), w64 (u8.2.1 + 1), (u8.2.2.set u8.1.toNat e15)))) (some (.nxt (u8.1, w64 (u8.2.1 + 1), u8.2.2)))) (some (.brk (u8.1, u8.2.1, u8.2.2)))
def m_slices_Compact_api_Came_api_Came_l1 (a0 : (List TCame)) (u1 : Int) : Option (Flow Int (List TCame)) :=
  ifB (decide (u1 < (a0.length : Int))) ((getI a0 u1).bind fun e5 => (getI a0 (w64 (u1 - 1))).bind fun e6 => ifB (decide (e5 = e6)) ((sliceI a0 u1 (a0.length : Int)).bind fun q7 => (loopM (m_slices_Compact_api_Came_api_Came_l2 a0 u1) (u1, 1, a0)).bind fun f11 => Flow.fin f11 fun u8 => (sliceI u8.2.2 u8.1 (u8.2.2.length : Int)).bind fun q17 => (sliceI (clearM (TCame.mk 0 ByteArray.empty false) u8.2.2 u8.1) 0 u8.1).bind fun q18 => some (.ret q18)) (some (.nxt (w64 (u1 + 1))))) (some (.brk u1))
def m_slices_Compact_api_Came_api_Came (a0 : (List TCame)) : Option (List TCame) :=
  ifB (decide ((a0.length : Int) < 2)) (some a0) ((loopM (m_slices_Compact_api_Came_api_Came_l1 a0) 1).bind fun f4 => Flow.fin f4 fun u1 => some a0)
def m_gleeref2_CameOf (a0 : (List TCame)) (a1 : (List TCame)) : Option ((List TCame) × Int) :=
  (m_slices_Concat_api_Came_api_Came [a0, a1]).bind fun y2 => (m_slices_SortFunc_api_Came_api_Came__gleeref2_cameOrder y2).bind fun y4 => (m_slices_Compact_api_Came_api_Came y4).bind fun y5 => ifB (decide ((y5.length : Int) > 5000)) (some ([], 2)) (some (y5, 0))
def m_gleemake_Stream_Cames_l1 (a0_0 : (List Int)) (i1 : Nat) (x2 : Nat) (u5 : (Int × Int × (List TCame))) : Option (Flow (Int × Int × (List TCame)) ((List TCame) × Int)) :=
  (m_gleemake_Stream_Pick a0_0 u5.2.1 [0, 5, 10, 20]).bind fun y11 => (m_gleemake_Stream_Some a0_0 y11.2 [(ByteArray.mk [97, 110, 110].toArray), (ByteArray.mk [97, 110, 110].toArray), (ByteArray.mk [98, 111, 98].toArray), (ByteArray.mk [99, 105, 100].toArray)]).bind fun y13 => (m_gleemake_Stream_Flip a0_0 y13.2 3).bind fun y14 => (m_gleemake_Stream_Flip a0_0 y14.2 100).bind fun y16 => (ifB y16.1 ((m_gleemake_Stream_Odd a0_0 y16.2 0 50).bind fun y20 => (m_gleemake_Stream_Some a0_0 y20.2 [ByteArray.empty, (ByteArray.mk [97, 110, 110].toArray)]).bind fun y22 => some (.inl (y22.2, y20.1, y22.1))) (some (.inl (y16.2, w64 (u5.1 + y11.1), y13.1))) : Option ((Int × Int × ByteArray) ⊕ (Flow (Int × Int × (List TCame)) ((List TCame) × Int)))).bind fun k19 => Sum.fin k19 fun u17 => (appM 32 u5.2.2 [(TCame.mk u17.2.1 u17.2.2 y14.1)]).bind fun q24 => some (.nxt (w64 (u5.1 + y11.1), u17.1, q24))
def m_gleemake_Stream_Cames (a0_0 : (List Int)) (a0_1 : Int) (a1 : Int) : Option ((List TCame) × Int) :=
  (rangeI a1).bind fun L30 => (rangeM (m_gleemake_Stream_Cames_l1 a0_0) 0 L30 (0, a0_1, [])).bind fun f8 => Flow.fin f8 fun u5 => (m_gleeref2_CameOf u5.2.2 []).bind fun y28 => some (y28.1, u5.2.1)
def m_gleemake_Stream_RehearsalTime (a0_0 : (List Int)) (a0_1 : Int) : Option (Int × Int) :=
  (m_gleemake_Stream_Pick a0_0 a0_1 [0, 20, 45, 60, 100, 300, (-1)]).bind fun y2 => some (y2.1, y2.2)
def m_kit_Outside (a0 : Int) (a1 : Int) (a2 : Int) : Option Bool :=
  ifB (decide (a0 < a1)) (some true) (some (decide (a0 > a2)))
def m_kit_IsMoment (a0 : Int) : Option Bool :=
  (m_kit_Outside a0 0 345686399999).bind fun y1 => some (!y1)
def m_kit_IsKey (a0 : ByteArray) : Option Bool :=
  ifB (!(a0.toList == ByteArray.empty.toList)) (ifB (decide ((a0.size : Int) ≤ 40)) ((strI a0 0).bind fun c1 => (m_strings_IndexByte (ByteArray.mk [97, 98, 99, 100, 101, 102, 103, 104, 105, 106, 107, 108, 109, 110, 111, 112, 113, 114, 115, 116, 117, 118, 119, 120, 121, 122].toArray) c1).bind fun y2 => ifB (decide (y2 ≥ 0)) ((m_strings_Trim a0 (ByteArray.mk [97, 98, 99, 100, 101, 102, 103, 104, 105, 106, 107, 108, 109, 110, 111, 112, 113, 114, 115, 116, 117, 118, 119, 120, 121, 122, 48, 49, 50, 51, 52, 53, 54, 55, 56, 57, 45, 95].toArray)).bind fun y3 => some (y3.toList == ByteArray.empty.toList)) (some false)) (some false)) (some false)
def m_cmp_isNaN_int (a0 : Int) : Option Bool :=
  some (a0 != a0)
def m_cmp_Compare_int (a0 : Int) (a1 : Int) : Option Int :=
  (m_cmp_isNaN_int a0).bind fun y1 => (m_cmp_isNaN_int a1).bind fun y2 => ifB y1 (ifB y2 (some 0) (some (-1))) (ifB y2 (some 1) (ifB (decide (a0 < a1)) (some (-1)) (ifB (decide (a0 > a1)) (some 1) (some 0))))
def m_rehearse_flagNumber (a0 : Bool) : Option Int :=
  ifB a0 (some 1) (some 0)
def m_cmp_Or_int_l1  (i1 : Nat) (x2 : Int) (u4 : Unit) : Option (Flow Unit Int) :=
  ifB (x2 != 0) (some (.ret x2)) (some (.nxt ()))
def m_cmp_Or_int (a0 : (List Int)) : Option Int :=
  (rangeM m_cmp_Or_int_l1 0 a0 ()).bind fun f7 => Flow.fin f7 fun u4 => some 0
def m_rehearse_compareCame (a0 : TCame) (a1 : TCame) : Option Int :=
  (m_cmp_Compare_int a0.At a1.At).bind fun y3 => (m_strings_Compare a0.Singer a1.Singer).bind fun y4 => (m_rehearse_flagNumber a0.Left).bind fun y5 => (m_rehearse_flagNumber a1.Left).bind fun y6 => (m_cmp_Compare_int y5 y6).bind fun y7 => (m_cmp_Or_int [y3, y4, y7]).bind fun y9 => some y9
def m_rehearse_CheckCame_l1 (a0 : (List TCame)) (i1 : Nat) (x2 : TCame) (u4 : Unit) : Option (Flow Unit Int) :=
  (m_kit_IsMoment x2.At).bind fun y9 => ifB (!y9) (some (.ret 1)) ((m_kit_IsKey x2.Singer).bind fun y10 => ifB (!y10) (some (.ret 5)) (ifB (decide ((i1 : Int) > 0)) ((getI a0 (w64 ((i1 : Int) - 1))).bind fun e11 => (m_rehearse_compareCame e11 x2).bind fun y12 => ifB (decide (y12 ≥ 0)) (some (.ret 7)) (some (.nxt ()))) (some (.nxt ()))))
def m_rehearse_CheckCame (a0 : (List TCame)) : Option Int :=
  ifB (decide ((a0.length : Int) > 5000)) (some 2) ((rangeM (m_rehearse_CheckCame_l1 a0) 0 a0 ()).bind fun f7 => Flow.fin f7 fun u4 => some 0)
def m_slices_SortFunc_api_Came_api_Came__rehearse_compareCame (a0 : (List TCame)) : Option (List TCame) :=
  sortFM m_rehearse_compareCame a0
def m_rehearse_MergeCame_l1  (i2 : Nat) (x3 : (List TCame)) (u5 : Unit) : Option (Flow Unit ((List TCame) × Int)) :=
  (m_rehearse_CheckCame x3).bind fun y9 => ifB (y9 != 0) (some (.ret ([], y9))) (some (.nxt ()))
def m_rehearse_MergeCame (a0 : (List TCame)) (a1 : (List TCame)) : Option ((List TCame) × Int) :=
  (rangeM m_rehearse_MergeCame_l1 0 [a0, a1] ()).bind fun f8 => Flow.fin f8 fun u5 => (m_slices_Concat_api_Came_api_Came [a0, a1]).bind fun y12 => (m_slices_SortFunc_api_Came_api_Came__rehearse_compareCame y12).bind fun y14 => (m_slices_Compact_api_Came_api_Came y14).bind fun y15 => ifB (decide ((y15.length : Int) > 5000)) (some ([], 2)) (some (y15, 0))
def m_kit_IsWindow (a0 : TWindow) : Option Bool :=
  (m_kit_Outside a0.From 0 a0.To).bind fun y2 => ifB (!y2) (some (decide (a0.To ≤ 345686400000))) (some false)
def m_rehearse_joined_l1  (i1 : Nat) (x2 : TWindow) (u5 : (List TWindow)) : Option (Flow (List TWindow) (List TWindow)) :=
  ifB (decide ((w64 ((u5.length : Int) - 1)) ≥ 0)) ((getI u5 (w64 ((u5.length : Int) - 1))).bind fun e11 => ifB (decide (x2.From ≤ e11.To)) ((getI u5 (w64 ((u5.length : Int) - 1))).bind fun e12 => (getI u5 (w64 ((u5.length : Int) - 1))).bind fun e13 => some (.nxt (u5.set ((w64 ((u5.length : Int) - 1)).toNat) (TWindow.mk e13.From (max e12.To x2.To))))) ((appM 16 u5 [x2]).bind fun q15 => some (.nxt q15))) ((appM 16 u5 [x2]).bind fun q18 => some (.nxt q18))
def m_rehearse_joined (a0 : (List TWindow)) : Option (List TWindow) :=
  (rangeM m_rehearse_joined_l1 0 a0 []).bind fun f8 => Flow.fin f8 fun u5 => some u5
def m_rehearse_presences_l3  (i50 : Nat) (x51 : ByteArray) (u57 : (List (ByteArray × (List TWindow)))) : Option (Flow (List (ByteArray × (List TWindow))) (List (ByteArray × (List TWindow)))) :=
  (m_rehearse_joined ((lkM u57 x51).getD [])).bind fun y62 => some (.nxt (putM u57 x51 y62))
def m_rehearse_presences_l2  (i33 : Nat) (x34 : (ByteArray × Int)) (u38 : (List (ByteArray × (List TWindow)))) : Option (Flow (List (ByteArray × (List TWindow))) (List (ByteArray × (List TWindow)))) :=
  (appM 16 ((lkM u38 x34.1).getD []) [(TWindow.mk x34.2 345686400000)]).bind fun q44 => some (.nxt (putM u38 x34.1 q44))
def m_rehearse_presences_l1  (i3 : Nat) (x4 : TCame) (u6 : ((List (ByteArray × Int)) × (List (ByteArray × (List TWindow))))) : Option (Flow ((List (ByteArray × Int)) × (List (ByteArray × (List TWindow)))) (List (ByteArray × (List TWindow)))) :=
  (ifB (!x4.Left) (some (.inl (!(hasM u6.1 x4.Singer)))) (some (.inl false)) : Option (Bool ⊕ (Flow ((List (ByteArray × Int)) × (List (ByteArray × (List TWindow)))) (List (ByteArray × (List TWindow)))))).bind fun k13 => Sum.fin k13 fun u11 => ifB u11 (some (.nxt (putM u6.1 x4.Singer x4.At, u6.2))) ((ifB x4.Left (some (.inl (hasM u6.1 x4.Singer))) (some (.inl false)) : Option (Bool ⊕ (Flow ((List (ByteArray × Int)) × (List (ByteArray × (List TWindow)))) (List (ByteArray × (List TWindow)))))).bind fun k18 => Sum.fin k18 fun u16 => ifB u16 (ifB (decide (((lkM u6.1 x4.Singer).getD 0) < x4.At)) ((appM 16 ((lkM u6.2 x4.Singer).getD []) [(TWindow.mk ((lkM u6.1 x4.Singer).getD 0) x4.At)]).bind fun q22 => some (.nxt (delM u6.1 x4.Singer, putM u6.2 x4.Singer q22))) (some (.nxt (delM u6.1 x4.Singer, u6.2)))) (some (.nxt (u6.1, u6.2))))
def m_rehearse_presences (a0 : (List TCame)) : Option (List (ByteArray × (List TWindow))) :=
  (rangeM m_rehearse_presences_l1 0 a0 ([], [])).bind fun f9 => Flow.fin f9 fun u6 => anyOrd u6.1 fun L41 => (rangeM m_rehearse_presences_l2 0 L41 u6.2).bind fun f69 => Flow.fin f69 fun u38 => anyOrd (u38.map Prod.fst) fun L60 => (rangeM m_rehearse_presences_l3 0 L60 u38).bind fun f68 => Flow.fin f68 fun u57 => some (canonM u57)
def m_rehearse_within_l1 (a1 : TWindow) (i2 : Nat) (x3 : TWindow) (u6 : (List TWindow)) : Option (Flow (List TWindow) (List TWindow)) :=
  ifB (decide ((max x3.From a1.From) < (min x3.To a1.To))) ((appM 16 u6 [(TWindow.mk (max x3.From a1.From) (min x3.To a1.To))]).bind fun q14 => some (.nxt q14)) (some (.nxt u6))
def m_rehearse_within (a0 : (List TWindow)) (a1 : TWindow) : Option (List TWindow) :=
  (rangeM (m_rehearse_within_l1 a1) 0 a0 []).bind fun f9 => Flow.fin f9 fun u6 => some u6
def m_rehearse_Present (a0 : (List TCame)) (a1 : ByteArray) (a2 : TWindow) : Option ((List TWindow) × Int) :=
  (m_rehearse_CheckCame a0).bind fun y2 => ifB (y2 != 0) (some ([], y2)) ((m_kit_IsKey a1).bind fun y4 => ifB (!y4) (some ([], 5)) ((m_kit_IsWindow a2).bind fun y6 => ifB (!y6) (some ([], 1)) ((m_rehearse_presences a0).bind fun y8 => (m_rehearse_within ((lkM y8 a1).getD []) a2).bind fun y15 => some (y15, 0))))
def m_kit_Has (a0 : TWindow) (a1 : Int) : Option Bool :=
  ifB (decide (a0.From ≤ a1)) (some (decide (a1 < a0.To))) (some false)
def m_rehearse_There_1 (a0 : TWindow) (a1_0 : Int) : Option Bool :=
  (m_kit_Has a0 a1_0).bind fun y2 => some y2
def m_slices_IndexFunc_api_Window_api_Window__rehearse_There_1_l1 (a1_c0_0 : Int) (i1 : Nat) (x2 : TWindow) (u4 : Unit) : Option (Flow Unit Int) :=
  (m_rehearse_There_1 x2 a1_c0_0).bind fun y8 => ifB y8 (some (.ret (i1 : Int))) (some (.nxt ()))
def m_slices_IndexFunc_api_Window_api_Window__rehearse_There_1 (a0 : (List TWindow)) (a1_c0_0 : Int) : Option Int :=
  (rangeM (m_slices_IndexFunc_api_Window_api_Window__rehearse_There_1_l1 a1_c0_0) 0 a0 ()).bind fun f7 => Flow.fin f7 fun u4 => some (-1)
def m_slices_ContainsFunc_api_Window_api_Window__rehearse_There_1 (a0 : (List TWindow)) (a1_c0_0 : Int) : Option Bool :=
  (m_slices_IndexFunc_api_Window_api_Window__rehearse_There_1 a0 a1_c0_0).bind fun y1 => some (decide (y1 ≥ 0))
noncomputable def m_slices_Sorted_string__maps_Keys_map_string_bool_string_bool_1 (a0_c0_0 : (List (ByteArray × Bool))) : Option (List ByteArray) :=
  if a0_c0_0.length ≤ 1000000000 then m_slices_Sort_string_string (a0_c0_0.map Prod.fst) else none
def m_rehearse_There_l1 (a1 : Int) (q12 : (List (ByteArray × (List TWindow)))) (i16 : Nat) (x17 : ByteArray) (u23 : (List (ByteArray × Bool))) : Option (Flow (List (ByteArray × Bool)) ((List ByteArray) × Int)) :=
  (m_slices_ContainsFunc_api_Window_api_Window__rehearse_There_1 ((lkM q12 x17).getD []) a1).bind fun y28 => ifB y28 (some (.nxt (putM u23 x17 true))) (some (.nxt u23))
def m_rehearse_There (a0 : (List TCame)) (a1 : Int) : Option ((List ByteArray) × Int) :=
  (m_rehearse_CheckCame a0).bind fun y2 => ifB (y2 != 0) (some ([], y2)) ((m_kit_IsMoment a1).bind fun y4 => ifB (!y4) (some ([], 1)) ((m_rehearse_presences a0).bind fun y7 => anyOrd y7 fun q12 => anyOrd (q12.map Prod.fst) fun L26 => (rangeM (m_rehearse_There_l1 a1 q12) 0 L26 []).bind fun f34 => Flow.fin f34 fun u23 => (m_slices_Sorted_string__maps_Keys_map_string_bool_string_bool_1 u23).bind fun y32 => some (y32, 0)))
def m_gleeref2_in (a0 : Int) (a1 : Int) (a2 : Int) : Option Bool :=
  ifB (decide (a1 ≤ a0)) (some (decide (a0 ≤ a2))) (some false)
def m_gleeref2_Moment (a0 : Int) : Option Bool :=
  (m_gleeref2_in a0 0 345686399999).bind fun y1 => some y1
def m_gleeref2_only_l1 (a0 : ByteArray) (a1 : ByteArray) (i1 : Nat) (x2 : Nat) (u4 : Unit) : Option (Flow Unit Bool) :=
  (strI a0 (i1 : Int)).bind fun c8 => (m_strings_IndexByte a1 c8).bind fun y9 => ifB (decide (y9 < 0)) (some (.ret false)) (some (.nxt ()))
def m_gleeref2_only (a0 : ByteArray) (a1 : ByteArray) : Option Bool :=
  (rangeI (a0.size : Int)).bind fun L10 => (rangeM (m_gleeref2_only_l1 a0 a1) 0 L10 ()).bind fun f7 => Flow.fin f7 fun u4 => some true
def m_gleeref2_Key (a0 : ByteArray) : Option Bool :=
  (m_gleeref2_in (a0.size : Int) 1 40).bind fun y1 => ifB y1 ((strS a0 0 1).bind fun c2 => (m_gleeref2_only c2 (ByteArray.mk [97, 98, 99, 100, 101, 102, 103, 104, 105, 106, 107, 108, 109, 110, 111, 112, 113, 114, 115, 116, 117, 118, 119, 120, 121, 122].toArray)).bind fun y3 => ifB y3 ((m_gleeref2_only a0 (ByteArray.mk [97, 98, 99, 100, 101, 102, 103, 104, 105, 106, 107, 108, 109, 110, 111, 112, 113, 114, 115, 116, 117, 118, 119, 120, 121, 122, 48, 49, 50, 51, 52, 53, 54, 55, 56, 57, 45, 95].toArray)).bind fun y4 => some y4) (some false)) (some false)
def m_gleeref2_CameFault_l1 (a0 : (List TCame)) (i1 : Nat) (x2 : TCame) (u4 : Unit) : Option (Flow Unit Int) :=
  (m_gleeref2_Moment x2.At).bind fun y9 => ifB (!y9) (some (.ret 1)) ((m_gleeref2_Key x2.Singer).bind fun y10 => ifB (!y10) (some (.ret 5)) (ifB (decide ((i1 : Int) > 0)) ((getI a0 (w64 ((i1 : Int) - 1))).bind fun e11 => (m_gleeref2_cameOrder e11 x2).bind fun y12 => ifB (decide (y12 ≥ 0)) (some (.ret 7)) (some (.nxt ()))) (some (.nxt ()))))
def m_gleeref2_CameFault (a0 : (List TCame)) : Option Int :=
  ifB (decide ((a0.length : Int) > 5000)) (some 2) ((rangeM (m_gleeref2_CameFault_l1 a0) 0 a0 ()).bind fun f7 => Flow.fin f7 fun u4 => some 0)
def m_gleelaw2_errs_l1  (i1 : Nat) (x2 : Int) (u4 : Unit) : Option (Flow Unit Int) :=
  ifB (x2 != 0) (some (.ret x2)) (some (.nxt ()))
def m_gleelaw2_errs (a0 : (List Int)) : Option Int :=
  (rangeM m_gleelaw2_errs_l1 0 a0 ()).bind fun f7 => Flow.fin f7 fun u4 => some 0
def m_gleelaw2_when (a0 : Bool) (a1 : Int) : Option Int :=
  ifB a0 (some a1) (some 0)
def m_gleelaw2_nameFault (a0 : ByteArray) : Option Int :=
  (m_gleeref2_Key a0).bind fun y1 => (m_gleelaw2_when (!y1) 5).bind fun y2 => some y2
def m_gleeref2_WindowFault (a0 : TWindow) : Option Int :=
  ((m_gleeref2_in a0.From 0 a0.To).bind fun y5 => ifB (!y5) (some (.inl true)) (some (.inl (decide (a0.To > 345686400000)))) : Option (Bool ⊕ Int)).bind fun k4 => Sum.fin k4 fun u2 => ifB u2 (some 1) (some 0)
def m_gleeref2_MomentFault (a0 : Int) : Option Int :=
  (m_gleeref2_Moment a0).bind fun y1 => ifB (!y1) (some 1) (some 0)
def m_gleeref2_thereAt_l1 (a1 : ByteArray) (a2 : Int) (i1 : Nat) (x2 : TCame) (u4 : Bool) : Option (Flow Bool Bool) :=
  (ifB (x2.Singer.toList == a1.toList) (some (.inl (decide (x2.At ≤ a2)))) (some (.inl false)) : Option (Bool ⊕ (Flow Bool Bool))).bind fun k11 => Sum.fin k11 fun u9 => ifB u9 (some (.nxt (!x2.Left))) (some (.nxt u4))
def m_gleeref2_thereAt (a0 : (List TCame)) (a1 : ByteArray) (a2 : Int) : Option Bool :=
  (rangeM (m_gleeref2_thereAt_l1 a1 a2) 0 a0 false).bind fun f7 => Flow.fin f7 fun u4 => some u4
def m_gleeref2_PresentOf_l2 (a0 : (List TCame)) (a1 : ByteArray) (y20 : (List Int)) (u23 : (Int × (List TWindow))) : Option (Flow (Int × (List TWindow)) (List TWindow)) :=
  ifB (decide ((w64 (u23.1 + 1)) < (y20.length : Int))) ((getI y20 u23.1).bind fun e28 => (m_gleeref2_thereAt a0 a1 e28).bind fun y29 => ifB (!y29) (some (.nxt (w64 (u23.1 + 1), u23.2))) (ifB (decide ((w64 ((u23.2.length : Int) - 1)) ≥ 0)) ((getI u23.2 (w64 ((u23.2.length : Int) - 1))).bind fun e30 => (getI y20 u23.1).bind fun e31 => ifB (e30.To == e31) ((getI y20 (w64 (u23.1 + 1))).bind fun e32 => (getI u23.2 (w64 ((u23.2.length : Int) - 1))).bind fun e33 => some (.nxt (w64 (u23.1 + 1), (u23.2.set ((w64 ((u23.2.length : Int) - 1)).toNat) (TWindow.mk e33.From e32))))) ((getI y20 u23.1).bind fun e34 => (getI y20 (w64 (u23.1 + 1))).bind fun e35 => (appM 16 u23.2 [(TWindow.mk e34 e35)]).bind fun q37 => some (.nxt (w64 (u23.1 + 1), q37)))) ((getI y20 u23.1).bind fun e43 => (getI y20 (w64 (u23.1 + 1))).bind fun e44 => (appM 16 u23.2 [(TWindow.mk e43 e44)]).bind fun q46 => some (.nxt (w64 (u23.1 + 1), q46))))) (some (.brk (u23.1, u23.2)))
def m_gleeref2_PresentOf_l1 (a1 : ByteArray) (a2 : TWindow) (i3 : Nat) (x4 : TCame) (u6 : (List Int)) : Option (Flow (List Int) (List TWindow)) :=
  (ifB (x4.Singer.toList == a1.toList) (ifB (decide (a2.From < x4.At)) (some (.inl (decide (x4.At < a2.To)))) (some (.inl false))) (some (.inl false)) : Option (Bool ⊕ (Flow (List Int) (List TWindow)))).bind fun k14 => Sum.fin k14 fun u12 => ifB u12 ((appM 8 u6 [x4.At]).bind fun q16 => some (.nxt q16)) (some (.nxt u6))
def m_gleeref2_PresentOf (a0 : (List TCame)) (a1 : ByteArray) (a2 : TWindow) : Option (List TWindow) :=
  (rangeM (m_gleeref2_PresentOf_l1 a1 a2) 0 a0 [a2.From, a2.To]).bind fun f9 => Flow.fin f9 fun u6 => (m_slices_Sort_int_int u6).bind fun y19 => (m_slices_Compact_int_int y19).bind fun y20 => (loopM (m_gleeref2_PresentOf_l2 a0 a1 y20) (0, [])).bind fun f26 => Flow.fin f26 fun u23 => some u23.2
def m_gleeref2_ThereOf_l1 (a0 : (List TCame)) (a1 : Int) (i1 : Nat) (x2 : TCame) (u5 : (List ByteArray)) : Option (Flow (List ByteArray) (List ByteArray)) :=
  (m_gleeref2_thereAt a0 x2.Singer a1).bind fun y11 => ifB y11 ((appM 16 u5 [x2.Singer]).bind fun q13 => some (.nxt q13)) (some (.nxt u5))
def m_gleeref2_ThereOf (a0 : (List TCame)) (a1 : Int) : Option (List ByteArray) :=
  (rangeM (m_gleeref2_ThereOf_l1 a0 a1) 0 a0 []).bind fun f8 => Flow.fin f8 fun u5 => (m_slices_Sort_string_string u5).bind fun y16 => (m_slices_Compact_string_string y16).bind fun y17 => some y17
def m_slices_Equal_api_Came_api_Came_l1 (a1 : (List TCame)) (i1 : Nat) (x2 : TCame) (u4 : Unit) : Option (Flow Unit Bool) :=
  (getI a1 (i1 : Int)).bind fun e8 => ifB (!(decide (x2 = e8))) (some (.ret false)) (some (.nxt ()))
def m_slices_Equal_api_Came_api_Came (a0 : (List TCame)) (a1 : (List TCame)) : Option Bool :=
  ifB ((a0.length : Int) != (a1.length : Int)) (some false) ((rangeM (m_slices_Equal_api_Came_api_Came_l1 a1) 0 a0 ()).bind fun f7 => Flow.fin f7 fun u4 => some true)
def m_slices_Equal_api_Window_api_Window_l1 (a1 : (List TWindow)) (i1 : Nat) (x2 : TWindow) (u4 : Unit) : Option (Flow Unit Bool) :=
  (getI a1 (i1 : Int)).bind fun e8 => ifB (!(decide (x2 = e8))) (some (.ret false)) (some (.nxt ()))
def m_slices_Equal_api_Window_api_Window (a0 : (List TWindow)) (a1 : (List TWindow)) : Option Bool :=
  ifB ((a0.length : Int) != (a1.length : Int)) (some false) ((rangeM (m_slices_Equal_api_Window_api_Window_l1 a1) 0 a0 ()).bind fun f7 => Flow.fin f7 fun u4 => some true)
def m_slices_Equal_string_string_l1 (a1 : (List ByteArray)) (i1 : Nat) (x2 : ByteArray) (u4 : Unit) : Option (Flow Unit Bool) :=
  (getI a1 (i1 : Int)).bind fun e8 => ifB (!(x2.toList == e8.toList)) (some (.ret false)) (some (.nxt ()))
def m_slices_Equal_string_string (a0 : (List ByteArray)) (a1 : (List ByteArray)) : Option Bool :=
  ifB ((a0.length : Int) != (a1.length : Int)) (some false) ((rangeM (m_slices_Equal_string_string_l1 a1) 0 a0 ()).bind fun f7 => Flow.fin f7 fun u4 => some true)
def m_gleelaw2_rehearsed  : Option Bool :=
  (m_rehearse_There [(TCame.mk 5 (ByteArray.mk [97, 110, 110].toArray) false)] 6).bind fun y2 => ifB (y2.2 == 0) ((m_slices_Equal_string_string y2.1 [(ByteArray.mk [97, 110, 110].toArray)]).bind fun y5 => some y5) (some false)
def m_gleelaw2_SingersCame (a0 : (List Int)) : Option Bool :=
  (m_gleemake_Stream_Range a0 0 0 12).bind fun y2 => (m_gleemake_Stream_Cames a0 y2.2 y2.1).bind fun y3 => (m_gleemake_Stream_Range a0 y3.2 0 6).bind fun y5 => (m_gleemake_Stream_Cames a0 y5.2 y5.1).bind fun y6 => (m_gleemake_Stream_Some a0 y6.2 [(ByteArray.mk [97, 110, 110].toArray), (ByteArray.mk [98, 111, 98].toArray), (ByteArray.mk [122, 101, 100].toArray), ByteArray.empty]).bind fun y9 => (m_gleemake_Stream_RehearsalTime a0 y9.2).bind fun y10 => (m_gleemake_Stream_Pick a0 y10.2 [0, 10, 30, (-1)]).bind fun y12 => (m_gleemake_Stream_Pick a0 y12.2 [5, 40, 90, 345686400000, 345686400001]).bind fun y14 => (m_rehearse_MergeCame y3.1 y6.1).bind fun y16 => (m_rehearse_Present y3.1 y9.1 (TWindow.mk y12.1 y14.1)).bind fun y18 => (m_rehearse_There y3.1 y10.1).bind fun y20 => (m_gleeref2_CameFault y3.1).bind fun y22 => (m_gleeref2_CameFault y6.1).bind fun y23 => (m_gleelaw2_errs [y22, y23]).bind fun y25 => (m_gleelaw2_nameFault y9.1).bind fun y26 => (m_gleeref2_WindowFault (TWindow.mk y12.1 y14.1)).bind fun y27 => (m_gleelaw2_errs [y22, y26, y27]).bind fun y29 => (m_gleeref2_MomentFault y10.1).bind fun y30 => (m_gleelaw2_errs [y22, y30]).bind fun y32 => (ifB (y25 == 0) ((m_gleeref2_CameOf y3.1 y6.1).bind fun y37 => some (.inl (y37.2, y37.1))) (some (.inl (y25, []))) : Option ((Int × (List TCame)) ⊕ Bool)).bind fun k36 => Sum.fin k36 fun u33 => (ifB (y29 == 0) ((m_gleeref2_PresentOf y3.1 y9.1 (TWindow.mk y12.1 y14.1)).bind fun y44 => some (.inl y44)) (some (.inl [])) : Option ((List TWindow) ⊕ Bool)).bind fun k43 => Sum.fin k43 fun u40 => (ifB (y32 == 0) ((m_gleeref2_ThereOf y3.1 y10.1).bind fun y51 => some (.inl y51)) (some (.inl [])) : Option ((List ByteArray) ⊕ Bool)).bind fun k50 => Sum.fin k50 fun u47 => (m_rehearse_CheckCame y3.1).bind fun y54 => ifB (y54 == y22) (ifB (y16.2 == u33.1) ((m_slices_Equal_api_Came_api_Came y16.1 u33.2).bind fun y55 => ifB y55 (ifB (y18.2 == y29) ((m_slices_Equal_api_Window_api_Window y18.1 u40).bind fun y56 => ifB y56 (ifB (y20.2 == y32) ((m_slices_Equal_string_string y20.1 u47).bind fun y57 => ifB y57 (m_gleelaw2_rehearsed.bind fun y58 => some y58) (some false)) (some false)) (some false)) (some false)) (some false)) (some false)) (some false)
end
end Go.G
