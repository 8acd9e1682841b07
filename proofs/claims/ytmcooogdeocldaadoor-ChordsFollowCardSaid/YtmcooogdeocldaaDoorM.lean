/- The models. Written by program. -/
import Derived.Test.YtmcooogdeocldaaDoorXM
namespace Go.G
open Go Go.J
set_option linter.unusedVariables false
noncomputable section
structure Tgleemake_Stream where
  L : (List Int)
  at_ : Int
  deriving DecidableEq, Inhabited
structure TChord where
  Root : Int
  Kind : Int
  Turn : Int
  deriving DecidableEq, Inhabited
structure TFollow where
  From : Int
  To : Int
  Up : Int
  deriving DecidableEq, Inhabited
def m_gleemake_Below (a0 : Int) (a1 : Int) : Option Int :=
  ifB (decide (a1 < 1)) (some 0) ((remM a0 a1).bind fun z1 => ifB (decide (z1 < 0)) (some (w64 (z1 + a1))) (some z1))
def m_gleemake_Stream_Next (a0_0 : (List Int)) (a0_1 : Int) (a1 : Int) : Option (Int × Int) :=
  ifB ((a0_0.length : Int) == 0) ((m_gleemake_Below (w64 ((w64 (a0_1 + 1)) * 7919)) a1).bind fun y1 => some (y1, w64 (a0_1 + 1))) ((remM (w64 ((w64 (a0_1 + 1)) - 1)) (a0_0.length : Int)).bind fun z2 => (quoM (w64 ((w64 (a0_1 + 1)) - 1)) (a0_0.length : Int)).bind fun z3 => (getI a0_0 z2).bind fun e4 => (m_gleemake_Below e4 1073741824).bind fun y5 => (m_gleemake_Below (w64 (y5 + (w64 (z3 * (w64 (7919 + z2)))))) a1).bind fun y6 => some (y6, w64 (a0_1 + 1)))
def m_gleemake_Stream_Range (a0_0 : (List Int)) (a0_1 : Int) (a1 : Int) (a2 : Int) : Option (Int × Int) :=
  ifB (decide (a2 < a1)) (some (a1, a0_1)) ((m_gleemake_Stream_Next a0_0 a0_1 (w64 ((w64 (a2 - a1)) + 1))).bind fun y1 => some (w64 (a1 + y1.1), y1.2))
def m_gleemake_Stream_Pick (a0_0 : (List Int)) (a0_1 : Int) (a1 : (List Int)) : Option (Int × Int) :=
  (m_gleemake_Stream_Next a0_0 a0_1 (a1.length : Int)).bind fun y1 => (getI a1 y1.1).bind fun e2 => some (e2, y1.2)
def m_bits_Len (a0 : Int) : Option Int :=
  (m_bits_Len64 a0).bind fun y1 => some y1
def m_cmp_isNaN_int (a0 : Int) : Option Bool :=
  some (a0 != a0)
def m_cmp_Compare_int (a0 : Int) (a1 : Int) : Option Int :=
  (m_cmp_isNaN_int a0).bind fun y1 => (m_cmp_isNaN_int a1).bind fun y2 => ifB y1 (ifB y2 (some 0) (some (-1))) (ifB y2 (some 1) (ifB (decide (a0 < a1)) (some (-1)) (ifB (decide (a0 > a1)) (some 1) (some 0))))
def m_slices_Compare_int_int_l1 (a1 : (List Int)) (i1 : Nat) (x2 : Int) (u4 : Unit) : Option (Flow Unit Int) :=
  ifB (decide ((i1 : Int) ≥ (a1.length : Int))) (some (.ret 1)) ((getI a1 (i1 : Int)).bind fun e8 => (m_cmp_Compare_int x2 e8).bind fun y9 => ifB (y9 != 0) (some (.ret y9)) (some (.nxt ())))
def m_slices_Compare_int_int (a0 : (List Int)) (a1 : (List Int)) : Option Int :=
  (rangeM (m_slices_Compare_int_int_l1 a1) 0 a0 ()).bind fun f7 => Flow.fin f7 fun u4 => ifB (decide ((a0.length : Int) < (a1.length : Int))) (some (-1)) (some 0)
def m_gleemake_Stream_Follows_1 (a0 : TFollow) (a1 : TFollow) : Option Int :=
  (m_slices_Compare_int_int [a0.From, a0.To, a0.Up] [a1.From, a1.To, a1.Up]).bind fun y5 => some y5
def m_slices_insertionSortCmpFunc_api_Follow__gleemake_Stream_Follows_1_l2 (a1 : Int) (u5 : (Int × (List TFollow))) : Option (Flow (Int × (List TFollow)) (Flow (Int × (List TFollow)) (List TFollow))) :=
  ifB (decide (u5.1 > a1)) ((getI u5.2 u5.1).bind fun e9 => (getI u5.2 (w64 (u5.1 - 1))).bind fun e10 => (m_gleemake_Stream_Follows_1 e9 e10).bind fun y11 => ifB (decide (y11 < 0)) ((getI u5.2 (w64 (u5.1 - 1))).bind fun e12 => (getI u5.2 u5.1).bind fun e13 => (getI u5.2 u5.1).bind fun e14 => (getI (u5.2.set u5.1.toNat e12) (w64 (u5.1 - 1))).bind fun e15 => some (.nxt (w64 (u5.1 - 1), ((u5.2.set u5.1.toNat e12).set ((w64 (u5.1 - 1)).toNat) e13)))) (some (.brk (u5.1, u5.2)))) (some (.brk (u5.1, u5.2)))
def m_slices_insertionSortCmpFunc_api_Follow__gleemake_Stream_Follows_1_l1 (a1 : Int) (a2 : Int) (u1 : (Int × (List TFollow))) : Option (Flow (Int × (List TFollow)) (List TFollow)) :=
  ifB (decide (u1.1 < a2)) ((loopM (m_slices_insertionSortCmpFunc_api_Follow__gleemake_Stream_Follows_1_l2 a1) (u1.1, u1.2)).bind fun f8 => Flow.fin f8 fun u5 => some (.nxt (w64 (u1.1 + 1), u5.2))) (some (.brk (u1.1, u1.2)))
def m_slices_insertionSortCmpFunc_api_Follow__gleemake_Stream_Follows_1 (a0 : (List TFollow)) (a1 : Int) (a2 : Int) : Option (List TFollow) :=
  (loopM (m_slices_insertionSortCmpFunc_api_Follow__gleemake_Stream_Follows_1_l1 a1 a2) (w64 (a1 + 1), a0)).bind fun f4 => Flow.fin f4 fun u1 => some u1.2
def m_slices_pdqsortCmpFunc_api_Follow__gleemake_Stream_Follows_1_l1 (a0 : (List TFollow)) (a1 : Int) (a2 : Int) (a3 : Int) (u1 : Unit) : Option (Flow Unit (List TFollow)) :=
  ifB (decide ((w64 (a2 - a1)) ≤ 12)) ((m_slices_insertionSortCmpFunc_api_Follow__gleemake_Stream_Follows_1 a0 a1 a2).bind fun y5 => some (.ret y5)) (ifB (a3 == 0) (none) ((ifB (!true) (none) (some (.inl ())) : Option (Unit ⊕ (Flow Unit (List TFollow)))).bind fun k8 => Sum.fin k8 fun u6 => none))
def m_slices_pdqsortCmpFunc_api_Follow__gleemake_Stream_Follows_1 (a0 : (List TFollow)) (a1 : Int) (a2 : Int) (a3 : Int) : Option (List TFollow) :=
  (loopM (m_slices_pdqsortCmpFunc_api_Follow__gleemake_Stream_Follows_1_l1 a0 a1 a2 a3) ()).bind fun f4 => Flow.fin f4 fun u1 => some a0
def m_slices_SortFunc_api_Follow_api_Follow__gleemake_Stream_Follows_1 (a0 : (List TFollow)) : Option (List TFollow) :=
  (m_bits_Len (IntKind.wrap .u64 (a0.length : Int))).bind fun y1 => (m_slices_pdqsortCmpFunc_api_Follow__gleemake_Stream_Follows_1 a0 0 (a0.length : Int) y1).bind fun y2 => some y2
def m_slices_Compact_api_Follow_api_Follow_l2 (a0 : (List TFollow)) (u1 : Int) (u8 : (Int × Int × (List TFollow))) : Option (Flow (Int × Int × (List TFollow)) (Flow Int (List TFollow))) :=
  (sliceI u8.2.2 u1 (a0.length : Int)).bind fun q12 => ifB (decide (u8.2.1 < (q12.length : Int))) ((getI q12 u8.2.1).bind fun e13 => (getI q12 (w64 (u8.2.1 - 1))).bind fun e14 => ifB (!(decide (e13 = e14))) ((getI q12 u8.2.1).bind fun e15 => (getI u8.2.2 u8.1).bind fun e16 => some (.nxt (w64 (u8.1 + 1), w64 (u8.2.1 + 1), (u8.2.2.set u8.1.toNat e15)))) (some (.nxt (u8.1, w64 (u8.2.1 + 1), u8.2.2)))) (some (.brk (u8.1, u8.2.1, u8.2.2)))
def m_slices_Compact_api_Follow_api_Follow_l1 (a0 : (List TFollow)) (u1 : Int) : Option (Flow Int (List TFollow)) :=
  ifB (decide (u1 < (a0.length : Int))) ((getI a0 u1).bind fun e5 => (getI a0 (w64 (u1 - 1))).bind fun e6 => ifB (decide (e5 = e6)) ((sliceI a0 u1 (a0.length : Int)).bind fun q7 => (loopM (m_slices_Compact_api_Follow_api_Follow_l2 a0 u1) (u1, 1, a0)).bind fun f11 => Flow.fin f11 fun u8 => (sliceI u8.2.2 u8.1 (u8.2.2.length : Int)).bind fun q17 => (sliceI (clearM (TFollow.mk 0 0 0) u8.2.2 u8.1) 0 u8.1).bind fun q18 => some (.ret q18)) (some (.nxt (w64 (u1 + 1))))) (some (.brk u1))
def m_slices_Compact_api_Follow_api_Follow (a0 : (List TFollow)) : Option (List TFollow) :=
  ifB (decide ((a0.length : Int) < 2)) (some a0) ((loopM (m_slices_Compact_api_Follow_api_Follow_l1 a0) 1).bind fun f4 => Flow.fin f4 fun u1 => some a0)
def m_gleemake_Stream_Flip (a0_0 : (List Int)) (a0_1 : Int) (a1 : Int) : Option (Bool × Int) :=
  (m_gleemake_Stream_Next a0_0 a0_1 a1).bind fun y1 => some (y1.1 == 0, y1.2)
def m_gleemake_Stream_Odd (a0_0 : (List Int)) (a0_1 : Int) (a1 : Int) (a2 : Int) : Option (Int × Int) :=
  (m_gleemake_Stream_Flip a0_0 a0_1 12).bind fun y1 => ifB y1.1 ((m_gleemake_Stream_Pick a0_0 y1.2 [w64 (a1 - 1), w64 (a2 + 1), a1, a2, (-1099511627776), 1099511627776]).bind fun y3 => some (y3.1, y3.2)) ((m_gleemake_Stream_Range a0_0 y1.2 a1 a2).bind fun y4 => some (y4.1, y4.2))
def m_gleemake_Stream_Follows_l1 (a0_0 : (List Int)) (i2 : Nat) (x3 : Nat) (u6 : (Int × (List TFollow))) : Option (Flow (Int × (List TFollow)) ((List TFollow) × Int)) :=
  (m_gleemake_Stream_Pick a0_0 u6.1 [1, 1, 2, 5]).bind fun y12 => (m_gleemake_Stream_Pick a0_0 y12.2 [1, 1, 2, 5]).bind fun y14 => (m_gleemake_Stream_Pick a0_0 y14.2 [5, 7, 7, 9, 2, 0]).bind fun y16 => (appM 24 u6.2 [(TFollow.mk y12.1 y14.1 y16.1)]).bind fun q18 => some (.nxt (y16.2, q18))
def m_gleemake_Stream_Follows (a0_0 : (List Int)) (a0_1 : Int) : Option ((List TFollow) × Int) :=
  (m_gleemake_Stream_Range a0_0 a0_1 0 8).bind fun y1 => (rangeI y1.1).bind fun L33 => (rangeM (m_gleemake_Stream_Follows_l1 a0_0) 0 L33 (y1.2, [])).bind fun f9 => Flow.fin f9 fun u6 => (m_slices_SortFunc_api_Follow_api_Follow__gleemake_Stream_Follows_1 u6.2).bind fun y21 => (m_slices_Compact_api_Follow_api_Follow y21).bind fun y22 => (ifB (decide ((y22.length : Int) > 0)) ((m_gleemake_Stream_Flip a0_0 u6.1 12).bind fun y27 => some (.inl (y27.1, y27.2))) (some (.inl (false, u6.1))) : Option ((Bool × Int) ⊕ ((List TFollow) × Int))).bind fun k26 => Sum.fin k26 fun u24 => ifB u24.1 ((m_gleemake_Stream_Next a0_0 u24.2 (y22.length : Int)).bind fun y28 => (m_gleemake_Stream_Odd a0_0 y28.2 1 7).bind fun y29 => (m_gleemake_Stream_Odd a0_0 y29.2 1 7).bind fun y30 => (m_gleemake_Stream_Odd a0_0 y30.2 0 11).bind fun y31 => (getI y22 y28.1).bind fun e32 => some ((y22.set y28.1.toNat (TFollow.mk y29.1 y30.1 y31.1)), y31.2)) (some (y22, u24.2))
def m_gleemake_Stream_AChord (a0_0 : (List Int)) (a0_1 : Int) : Option (TChord × Int) :=
  (m_gleemake_Stream_Flip a0_0 a0_1 40).bind fun y2 => ifB y2.1 ((m_gleemake_Stream_Odd a0_0 y2.2 0 11).bind fun y3 => (m_gleemake_Stream_Odd a0_0 y3.2 1 7).bind fun y4 => (m_gleemake_Stream_Odd a0_0 y4.2 0 3).bind fun y5 => some ((TChord.mk y3.1 y4.1 y5.1), y5.2)) ((m_gleemake_Stream_Range a0_0 y2.2 0 11).bind fun y6 => (m_gleemake_Stream_Range a0_0 y6.2 1 7).bind fun y7 => (m_gleemake_Stream_Pick a0_0 y7.2 [0, 0, 0, 1, 2]).bind fun y9 => some ((TChord.mk y6.1 y7.1 y9.1), y9.2))
def m_gleemake_Stream_Chords_l1 (a0_0 : (List Int)) (i1 : Nat) (x2 : Nat) (u5 : (Int × (List TChord))) : Option (Flow (Int × (List TChord)) ((List TChord) × Int)) :=
  (m_gleemake_Stream_AChord a0_0 u5.1).bind fun y10 => (m_gleemake_Stream_Flip a0_0 y10.2 2).bind fun y12 => (ifB y12.1 ((m_gleemake_Stream_Pick a0_0 y12.2 [0, 5, 7]).bind fun y17 => some (.inl (y17.2, y17.1, 1, 0))) (some (.inl (y12.2, y10.1.Root, y10.1.Kind, y10.1.Turn))) : Option ((Int × Int × Int × Int) ⊕ (Flow (Int × (List TChord)) ((List TChord) × Int)))).bind fun k15 => Sum.fin k15 fun u13 => (appM 24 u5.2 [(TChord.mk u13.2.1 u13.2.2.1 u13.2.2.2)]).bind fun q19 => some (.nxt (u13.1, q19))
def m_gleemake_Stream_Chords (a0_0 : (List Int)) (a0_1 : Int) (a1 : Int) : Option ((List TChord) × Int) :=
  (rangeI a1).bind fun L22 => (rangeM (m_gleemake_Stream_Chords_l1 a0_0) 0 L22 (a0_1, [])).bind fun f8 => Flow.fin f8 fun u5 => some (u5.2, u5.1)
def m_kit_Outside (a0 : Int) (a1 : Int) (a2 : Int) : Option Bool :=
  ifB (decide (a0 < a1)) (some true) (some (decide (a0 > a2)))
def m_chord_isKind (a0 : Int) : Option Bool :=
  (m_kit_Outside a0 1 7).bind fun y1 => some (!y1)
def m_chord_compareFollows_l1  (i4 : Nat) (x5 : Int) (u7 : Unit) : Option (Flow Unit Int) :=
  ifB (x5 != 0) (some (.ret x5)) (some (.nxt ()))
def m_chord_compareFollows (a0 : TFollow) (a1 : TFollow) : Option Int :=
  (rangeM m_chord_compareFollows_l1 0 [w64 (a0.From - a1.From), w64 (a0.To - a1.To), w64 (a0.Up - a1.Up)] ()).bind fun f10 => Flow.fin f10 fun u7 => some 0
def m_chord_CheckFollows_l1 (a0 : (List TFollow)) (i1 : Nat) (x2 : TFollow) (u4 : Unit) : Option (Flow Unit Int) :=
  ((m_chord_isKind x2.From).bind fun y12 => ifB (!y12) (some (.inl true)) ((m_chord_isKind x2.To).bind fun y13 => some (.inl (!y13))) : Option (Bool ⊕ (Flow Unit Int))).bind fun k11 => Sum.fin k11 fun u9 => ifB u9 (some (.ret 4)) ((m_kit_Outside x2.Up 0 11).bind fun y14 => ifB y14 (some (.ret 1)) (ifB (decide ((i1 : Int) > 0)) ((getI a0 (w64 ((i1 : Int) - 1))).bind fun e15 => (m_chord_compareFollows e15 x2).bind fun y16 => ifB (decide (y16 ≥ 0)) (some (.ret 7)) (some (.nxt ()))) (some (.nxt ()))))
def m_chord_CheckFollows (a0 : (List TFollow)) : Option Int :=
  ifB (decide ((a0.length : Int) > 500)) (some 2) ((rangeM (m_chord_CheckFollows_l1 a0) 0 a0 ()).bind fun f7 => Flow.fin f7 fun u4 => some 0)
def m_chord_above (a0 : Int) : Option (List Int) :=
  (getI [[], [0, 4, 7], [0, 3, 7], [0, 3, 6], [0, 4, 8], [0, 4, 7, 10], [0, 4, 7, 11], [0, 3, 7, 10]] a0).bind fun e12 => some e12
def m_chord_CheckChord (a0 : TChord) : Option Int :=
  (m_kit_Outside a0.Root 0 11).bind fun y2 => ifB y2 (some 1) ((m_chord_isKind a0.Kind).bind fun y3 => ifB (!y3) (some 4) ((m_chord_above a0.Kind).bind fun y4 => (m_kit_Outside a0.Turn 0 (w64 ((y4.length : Int) - 1))).bind fun y6 => ifB y6 (some 1) (some 0)))
def m_chord_checkAll_l1  (i1 : Nat) (x2 : TChord) (u4 : Unit) : Option (Flow Unit Int) :=
  (m_chord_CheckChord x2).bind fun y9 => ifB (y9 != 0) (some (.ret y9)) (some (.nxt ()))
def m_chord_checkAll (a0 : (List TChord)) : Option Int :=
  (rangeM m_chord_checkAll_l1 0 a0 ()).bind fun f7 => Flow.fin f7 fun u4 => some 0
def m_slices_Index_api_Follow_api_Follow_l1 (a1 : TFollow) (i2 : Nat) (x3 : TFollow) (u5 : Unit) : Option (Flow Unit Int) :=
  ifB (decide (a1 = x3)) (some (.ret (i2 : Int))) (some (.nxt ()))
def m_slices_Index_api_Follow_api_Follow (a0 : (List TFollow)) (a1 : TFollow) : Option Int :=
  (rangeM (m_slices_Index_api_Follow_api_Follow_l1 a1) 0 a0 ()).bind fun f8 => Flow.fin f8 fun u5 => some (-1)
def m_slices_Contains_api_Follow_api_Follow (a0 : (List TFollow)) (a1 : TFollow) : Option Bool :=
  (m_slices_Index_api_Follow_api_Follow a0 a1).bind fun y2 => some (decide (y2 ≥ 0))
def m_chord_may (a0 : (List TFollow)) (a1 : TChord) (a2 : TChord) : Option Bool :=
  (m_slices_Contains_api_Follow_api_Follow a0 (TFollow.mk a1.Kind a2.Kind ((w64 ((w64 (a2.Root - a1.Root)) + 12)).tmod 12))).bind fun y3 => some y3
def m_chord_May (a0 : (List TFollow)) (a1 : TChord) (a2 : TChord) : Option (Bool × Int) :=
  (m_chord_CheckFollows a0).bind fun y3 => ifB (y3 != 0) (some (false, y3)) ((m_chord_checkAll [a1, a2]).bind fun y5 => ifB (y5 != 0) (some (false, y5)) ((m_chord_may a0 a1 a2).bind fun y6 => some (y6, 0)))
def m_chord_rowFault (a0 : (List TChord)) : Option Int :=
  ifB (decide ((a0.length : Int) > 144)) (some 2) ((m_chord_checkAll a0).bind fun y1 => some y1)
def m_chord_Broken_l1 (a0 : (List TFollow)) (a1 : (List TChord)) (u6 : (Int × (List Int))) : Option (Flow (Int × (List Int)) ((List Int) × Int)) :=
  ifB (decide (u6.1 < (a1.length : Int))) ((getI a1 (w64 (u6.1 - 1))).bind fun e11 => (getI a1 u6.1).bind fun e12 => (m_chord_may a0 e11 e12).bind fun y13 => ifB (!y13) ((appM 8 u6.2 [u6.1]).bind fun q15 => some (.nxt (w64 (u6.1 + 1), q15))) (some (.nxt (w64 (u6.1 + 1), u6.2)))) (some (.brk (u6.1, u6.2)))
def m_chord_Broken (a0 : (List TFollow)) (a1 : (List TChord)) : Option ((List Int) × Int) :=
  (m_chord_CheckFollows a0).bind fun y1 => ifB (y1 != 0) (some ([], y1)) ((m_chord_rowFault a1).bind fun y3 => ifB (y3 != 0) (some ([], y3)) ((loopM (m_chord_Broken_l1 a0 a1) (1, [])).bind fun f9 => Flow.fin f9 fun u6 => some (u6.2, 0)))
def m_chord_all_l2 (i1 : Nat) (u10 : (Int × (List TChord))) : Option (Flow (Int × (List TChord)) (Flow (List TChord) (List TChord))) :=
  ifB (decide (u10.1 ≤ 7)) ((appM 24 u10.2 [(TChord.mk (i1 : Int) u10.1 0)]).bind fun q16 => some (.nxt (w64 (u10.1 + 1), q16))) (some (.brk (u10.1, u10.2)))
def m_chord_all_l1  (i1 : Nat) (x2 : Nat) (u5 : (List TChord)) : Option (Flow (List TChord) (List TChord)) :=
  (loopM (m_chord_all_l2 i1) (1, u5)).bind fun f13 => Flow.fin f13 fun u10 => some (.nxt u10.2)
def m_chord_all  : Option (List TChord) :=
  (rangeI 12).bind fun L20 => (rangeM m_chord_all_l1 0 L20 []).bind fun f8 => Flow.fin f8 fun u5 => some u5
def m_chord_stepsTo_l2 (a0 : (List TFollow)) (e11 : TChord) (i16 : Nat) (x17 : TChord) (u19 : ((List (TChord × Int)) × (List TChord))) : Option (Flow ((List (TChord × Int)) × (List TChord)) (Flow ((List (TChord × Int)) × (List TChord)) (List (TChord × Int)))) :=
  (ifB (!(hasM u19.1 x17)) ((m_chord_may a0 x17 e11).bind fun y28 => some (.inl y28)) (some (.inl false)) : Option (Bool ⊕ (Flow ((List (TChord × Int)) × (List TChord)) (Flow ((List (TChord × Int)) × (List TChord)) (List (TChord × Int)))))).bind fun k27 => Sum.fin k27 fun u25 => ifB u25 ((appM 24 u19.2 [x17]).bind fun q32 => some (.nxt (putM u19.1 x17 (w64 (((lkM u19.1 e11).getD 0) + 1)), q32))) (some (.nxt (u19.1, u19.2)))
def m_chord_stepsTo_l1 (a0 : (List TFollow)) (u6 : ((List (TChord × Int)) × (List TChord))) : Option (Flow ((List (TChord × Int)) × (List TChord)) (List (TChord × Int))) :=
  ifB (decide ((u6.2.length : Int) > 0)) ((getI u6.2 0).bind fun e11 => (sliceI u6.2 1 (u6.2.length : Int)).bind fun q13 => m_chord_all.bind fun y14 => (rangeM (m_chord_stepsTo_l2 a0 e11) 0 y14 (u6.1, q13)).bind fun f22 => Flow.fin f22 fun u19 => some (.nxt (u19.1, u19.2))) (some (.brk (u6.1, u6.2)))
def m_chord_stepsTo (a0 : (List TFollow)) (a1 : TChord) : Option (List (TChord × Int)) :=
  (loopM (m_chord_stepsTo_l1 a0) (putM ([] : (List (TChord × Int))) a1 0, [a1])).bind fun f9 => Flow.fin f9 fun u6 => some u6.1
def m_chord_Way_l2 (a0 : (List TFollow)) (y8 : (List (TChord × Int))) (u14 : (Int × (List TChord))) (i21 : Nat) (x22 : TChord) (u24 : (List TChord)) : Option (Flow (List TChord) (Flow (Int × (List TChord)) ((List TChord) × Bool × Int))) :=
  ifB (hasM y8 x22) (ifB (((lkM y8 x22).getD 0) == (w64 (u14.1 - 1))) ((getI u24 (w64 ((u24.length : Int) - 1))).bind fun e30 => (m_chord_may a0 e30 x22).bind fun y31 => ifB y31 ((appM 24 u24 [x22]).bind fun q33 => some (.brk q33)) (some (.nxt u24))) (some (.nxt u24))) (some (.nxt u24))
def m_chord_Way_l1 (a0 : (List TFollow)) (y8 : (List (TChord × Int))) (u14 : (Int × (List TChord))) : Option (Flow (Int × (List TChord)) ((List TChord) × Bool × Int)) :=
  ifB (decide (u14.1 > 0)) (m_chord_all.bind fun y19 => (rangeM (m_chord_Way_l2 a0 y8 u14) 0 y19 u14.2).bind fun f27 => Flow.fin f27 fun u24 => some (.nxt (w64 (u14.1 - 1), u24))) (some (.brk (u14.1, u14.2)))
def m_chord_Way (a0 : (List TFollow)) (a1 : TChord) (a2 : TChord) : Option ((List TChord) × Bool × Int) :=
  (m_chord_CheckFollows a0).bind fun y3 => ifB (y3 != 0) (some ([], false, y3)) ((m_chord_checkAll [a1, a2]).bind fun y6 => ifB (y6 != 0) (some ([], false, y6)) ((m_chord_stepsTo a0 (TChord.mk a2.Root a2.Kind 0)).bind fun y8 => ifB (!(hasM y8 (TChord.mk a1.Root a1.Kind 0))) (some ([], false, 0)) ((loopM (m_chord_Way_l1 a0 y8) (((lkM y8 (TChord.mk a1.Root a1.Kind 0)).getD 0), [(TChord.mk a1.Root a1.Kind 0)])).bind fun f17 => Flow.fin f17 fun u14 => some (u14.2, true, 0))))
def m_gleeref2_in (a0 : Int) (a1 : Int) (a2 : Int) : Option Bool :=
  ifB (decide (a1 ≤ a0)) (some (decide (a0 ≤ a2))) (some false)
def m_gleeref2_FollowsFault_l1 (a0 : (List TFollow)) (i1 : Nat) (x2 : TFollow) (u4 : Unit) : Option (Flow Unit Int) :=
  ((m_gleeref2_in x2.From 1 7).bind fun y12 => ifB (!y12) (some (.inl true)) ((m_gleeref2_in x2.To 1 7).bind fun y13 => some (.inl (!y13))) : Option (Bool ⊕ (Flow Unit Int))).bind fun k11 => Sum.fin k11 fun u9 => ifB u9 (some (.ret 4)) ((m_gleeref2_in x2.Up 0 11).bind fun y14 => ifB (!y14) (some (.ret 1)) ((ifB (decide ((i1 : Int) > 0)) ((getI a0 (w64 ((i1 : Int) - 1))).bind fun e18 => (getI a0 (w64 ((i1 : Int) - 1))).bind fun e19 => (getI a0 (w64 ((i1 : Int) - 1))).bind fun e20 => (m_slices_Compare_int_int [e18.From, e19.To, e20.Up] [x2.From, x2.To, x2.Up]).bind fun y23 => some (.inl (decide (y23 ≥ 0)))) (some (.inl false)) : Option (Bool ⊕ (Flow Unit Int))).bind fun k17 => Sum.fin k17 fun u15 => ifB u15 (some (.ret 7)) (some (.nxt ()))))
def m_gleeref2_FollowsFault (a0 : (List TFollow)) : Option Int :=
  ifB (decide ((a0.length : Int) > 500)) (some 2) ((rangeM (m_gleeref2_FollowsFault_l1 a0) 0 a0 ()).bind fun f7 => Flow.fin f7 fun u4 => some 0)
def m_gleeref2_kindTones (a0 : Int) : Option (List Int) :=
  (getI [[], [0, 4, 7], [0, 3, 7], [0, 3, 6], [0, 4, 8], [0, 4, 7, 10], [0, 4, 7, 11], [0, 3, 7, 10]] a0).bind fun e12 => some e12
def m_gleeref2_ChordFault (a0 : TChord) : Option Int :=
  (m_gleeref2_in a0.Root 0 11).bind fun y2 => ifB (!y2) (some 1) ((m_gleeref2_in a0.Kind 1 7).bind fun y3 => ifB (!y3) (some 4) ((m_gleeref2_kindTones a0.Kind).bind fun y4 => (m_gleeref2_in a0.Turn 0 (w64 ((y4.length : Int) - 1))).bind fun y6 => ifB (!y6) (some 1) (some 0)))
def m_gleelaw2_errs_l1  (i1 : Nat) (x2 : Int) (u4 : Unit) : Option (Flow Unit Int) :=
  ifB (x2 != 0) (some (.ret x2)) (some (.nxt ()))
def m_gleelaw2_errs (a0 : (List Int)) : Option Int :=
  (rangeM m_gleelaw2_errs_l1 0 a0 ()).bind fun f7 => Flow.fin f7 fun u4 => some 0
def m_gleeref2_ChordsFault_l1  (i1 : Nat) (x2 : TChord) (u4 : Unit) : Option (Flow Unit Int) :=
  (m_gleeref2_ChordFault x2).bind fun y9 => ifB (y9 != 0) (some (.ret y9)) (some (.nxt ()))
def m_gleeref2_ChordsFault (a0 : (List TChord)) (a1 : Int) : Option Int :=
  ifB (decide ((a0.length : Int) > a1)) (some 2) ((rangeM m_gleeref2_ChordsFault_l1 0 a0 ()).bind fun f7 => Flow.fin f7 fun u4 => some 0)
def m_gleeref2_MayFollow (a0 : (List TFollow)) (a1 : TChord) (a2 : TChord) : Option Bool :=
  (m_slices_Contains_api_Follow_api_Follow a0 (TFollow.mk a1.Kind a2.Kind ((w64 ((w64 (a2.Root - a1.Root)) + 12)).tmod 12))).bind fun y3 => some y3
def m_gleeref2_allChords_l3 (i1 : Nat) (u10 : (Int × (List TChord))) (i17 : Nat) (x18 : Int) (u20 : (List TChord)) : Option (Flow (List TChord) (Flow (Int × (List TChord)) (Flow (List TChord) (List TChord)))) :=
  (appM 24 u20 [(TChord.mk (i1 : Int) u10.1 (i17 : Int))]).bind fun q26 => some (.nxt q26)
def m_gleeref2_allChords_l2 (i1 : Nat) (u10 : (Int × (List TChord))) : Option (Flow (Int × (List TChord)) (Flow (List TChord) (List TChord))) :=
  ifB (decide (u10.1 ≤ 7)) ((m_gleeref2_kindTones u10.1).bind fun y15 => (rangeM (m_gleeref2_allChords_l3 i1 u10) 0 y15 u10.2).bind fun f23 => Flow.fin f23 fun u20 => some (.nxt (w64 (u10.1 + 1), u20))) (some (.brk (u10.1, u10.2)))
def m_gleeref2_allChords_l1  (i1 : Nat) (x2 : Nat) (u5 : (List TChord)) : Option (Flow (List TChord) (List TChord)) :=
  (loopM (m_gleeref2_allChords_l2 i1) (1, u5)).bind fun f13 => Flow.fin f13 fun u10 => some (.nxt u10.2)
def m_gleeref2_allChords  : Option (List TChord) :=
  (rangeI 12).bind fun L31 => (rangeM m_gleeref2_allChords_l1 0 L31 []).bind fun f8 => Flow.fin f8 fun u5 => some u5
def m_gleeref2_plainChords_1 (a0 : TChord) : Option Bool :=
  some (decide (a0.Turn > 0))
def m_slices_IndexFunc_api_Chord_api_Chord__gleeref2_plainChords_1_l1  (i1 : Nat) (x2 : TChord) (u4 : Unit) : Option (Flow Unit Int) :=
  (m_gleeref2_plainChords_1 x2).bind fun y8 => ifB y8 (some (.ret (i1 : Int))) (some (.nxt ()))
def m_slices_IndexFunc_api_Chord_api_Chord__gleeref2_plainChords_1 (a0 : (List TChord)) : Option Int :=
  (rangeM m_slices_IndexFunc_api_Chord_api_Chord__gleeref2_plainChords_1_l1 0 a0 ()).bind fun f7 => Flow.fin f7 fun u4 => some (-1)
def m_slices_DeleteFunc_api_Chord_api_Chord__gleeref2_plainChords_1_l1  (u2 : (Int × Int × (List TChord))) : Option (Flow (Int × Int × (List TChord)) (List TChord)) :=
  ifB (decide (u2.2.1 < (u2.2.2.length : Int))) ((getI u2.2.2 u2.2.1).bind fun e6 => (m_gleeref2_plainChords_1 e6).bind fun y8 => ifB (!y8) ((getI u2.2.2 u2.1).bind fun e9 => some (.nxt (w64 (u2.1 + 1), w64 (u2.2.1 + 1), (u2.2.2.set u2.1.toNat e6)))) (some (.nxt (u2.1, w64 (u2.2.1 + 1), u2.2.2)))) (some (.brk (u2.1, u2.2.1, u2.2.2)))
def m_slices_DeleteFunc_api_Chord_api_Chord__gleeref2_plainChords_1 (a0 : (List TChord)) : Option (List TChord) :=
  (m_slices_IndexFunc_api_Chord_api_Chord__gleeref2_plainChords_1 a0).bind fun y1 => ifB (y1 == (-1)) (some a0) ((loopM m_slices_DeleteFunc_api_Chord_api_Chord__gleeref2_plainChords_1_l1 (y1, w64 (y1 + 1), a0)).bind fun f5 => Flow.fin f5 fun u2 => (sliceI u2.2.2 u2.1 (u2.2.2.length : Int)).bind fun q10 => (sliceI (clearM (TChord.mk 0 0 0) u2.2.2 u2.1) 0 u2.1).bind fun q11 => some q11)
def m_gleeref2_plainChords  : Option (List TChord) :=
  m_gleeref2_allChords.bind fun y1 => (m_slices_DeleteFunc_api_Chord_api_Chord__gleeref2_plainChords_1 y1).bind fun y3 => some y3
noncomputable def m_gleeref2_WayOf_l3 (a0 : (List TFollow)) (x12 : TChord) (selfk16 : ((Bool × (List (TChord × Int))) → Option ((List TChord) × Bool))) (u14 : (Bool × (List (TChord × Int)))) (i20 : Nat) (x21 : (TChord × Int)) (u25 : Unit) (selfk27 : (Unit → Option ((List TChord) × Bool))) : Option ((List TChord) × Bool) :=
  ((m_gleeref2_MayFollow a0 x12 x21.1).bind fun y32 => ifB y32 (ifB (!(hasM u14.2 x12)) (some (.inl true)) (some (.inl (decide ((w64 (x21.2 + 1)) < ((lkM u14.2 x12).getD 0)))))) (some (.inl false)) : Option (Bool ⊕ ((List TChord) × Bool))).bind fun k31 => Sum.fin k31 fun u29 => ifB u29 (selfk16 (true, putM u14.2 x12 (w64 (x21.2 + 1)))) (selfk27 ())
noncomputable def m_gleeref2_WayOf_l2 (a0 : (List TFollow)) (i11 : Nat) (x12 : TChord) (u14 : (Bool × (List (TChord × Int)))) (selfk16 : ((Bool × (List (TChord × Int))) → Option ((List TChord) × Bool))) : Option ((List TChord) × Bool) :=
  mrangeK (m_gleeref2_WayOf_l3 a0 x12 selfk16 u14) (fun u25 => selfk16 (u14.1, u14.2)) u14.2 u14.2.length [] ()
def m_gleeref2_WayOf_l5 (a0 : (List TFollow)) (u6 : (Bool × (List (TChord × Int)))) (u38 : (Int × (List TChord))) (i45 : Nat) (x46 : TChord) (u48 : (List TChord)) : Option (Flow (List TChord) (Flow (Int × (List TChord)) ((List TChord) × Bool))) :=
  ifB (hasM u6.2 x46) (ifB (((lkM u6.2 x46).getD 0) == (w64 (u38.1 - 1))) ((getI u48 (w64 ((u48.length : Int) - 1))).bind fun e54 => (m_gleeref2_MayFollow a0 e54 x46).bind fun y55 => ifB y55 ((appM 24 u48 [x46]).bind fun q57 => some (.brk q57)) (some (.nxt u48))) (some (.nxt u48))) (some (.nxt u48))
def m_gleeref2_WayOf_l4 (a0 : (List TFollow)) (u6 : (Bool × (List (TChord × Int)))) (u38 : (Int × (List TChord))) : Option (Flow (Int × (List TChord)) ((List TChord) × Bool)) :=
  ifB (decide (u38.1 > 0)) (m_gleeref2_plainChords.bind fun y43 => (rangeM (m_gleeref2_WayOf_l5 a0 u6 u38) 0 y43 u38.2).bind fun f51 => Flow.fin f51 fun u48 => some (.nxt (w64 (u38.1 - 1), u48))) (some (.brk (u38.1, u38.2)))
noncomputable def m_gleeref2_WayOf_l1 (a0 : (List TFollow)) (a1 : TChord) (u6 : (Bool × (List (TChord × Int)))) (selfk8 : ((Bool × (List (TChord × Int))) → Option ((List TChord) × Bool))) : Option ((List TChord) × Bool) :=
  ifB u6.1 (m_gleeref2_plainChords.bind fun y9 => rangeK (m_gleeref2_WayOf_l2 a0) (fun u14 => selfk8 (u14.1, u14.2)) 0 y9 (false, u6.2)) (ifB (!(hasM u6.2 (TChord.mk a1.Root a1.Kind 0))) (some ([], false)) ((loopM (m_gleeref2_WayOf_l4 a0 u6) (((lkM u6.2 (TChord.mk a1.Root a1.Kind 0)).getD 0), [(TChord.mk a1.Root a1.Kind 0)])).bind fun f41 => Flow.fin f41 fun u38 => some (u38.2, true)))
def m_gleeref2_WayOf (a0 : (List TFollow)) (a1 : TChord) (a2 : TChord) : Option ((List TChord) × Bool) :=
  loopK (m_gleeref2_WayOf_l1 a0 a1) FUEL (true, putM ([] : (List (TChord × Int))) (TChord.mk a2.Root a2.Kind 0) 0)
def m_gleeref2_BrokenOf_l1 (a0 : (List TFollow)) (a1 : (List TChord)) (i1 : Nat) (x2 : TChord) (u5 : (List Int)) : Option (Flow (List Int) (List Int)) :=
  ifB (decide ((i1 : Int) > 0)) ((getI a1 (w64 ((i1 : Int) - 1))).bind fun e10 => (m_gleeref2_MayFollow a0 e10 x2).bind fun y11 => ifB (!y11) ((appM 8 u5 [(i1 : Int)]).bind fun q13 => some (.nxt q13)) (some (.nxt u5))) (some (.nxt u5))
def m_gleeref2_BrokenOf (a0 : (List TFollow)) (a1 : (List TChord)) : Option (List Int) :=
  (rangeM (m_gleeref2_BrokenOf_l1 a0 a1) 0 a1 []).bind fun f8 => Flow.fin f8 fun u5 => some u5
def m_slices_Equal_int_int_l1 (a1 : (List Int)) (i1 : Nat) (x2 : Int) (u4 : Unit) : Option (Flow Unit Bool) :=
  (getI a1 (i1 : Int)).bind fun e8 => ifB (x2 != e8) (some (.ret false)) (some (.nxt ()))
def m_slices_Equal_int_int (a0 : (List Int)) (a1 : (List Int)) : Option Bool :=
  ifB ((a0.length : Int) != (a1.length : Int)) (some false) ((rangeM (m_slices_Equal_int_int_l1 a1) 0 a0 ()).bind fun f7 => Flow.fin f7 fun u4 => some true)
def m_slices_Equal_api_Chord_api_Chord_l1 (a1 : (List TChord)) (i1 : Nat) (x2 : TChord) (u4 : Unit) : Option (Flow Unit Bool) :=
  (getI a1 (i1 : Int)).bind fun e8 => ifB (!(decide (x2 = e8))) (some (.ret false)) (some (.nxt ()))
def m_slices_Equal_api_Chord_api_Chord (a0 : (List TChord)) (a1 : (List TChord)) : Option Bool :=
  ifB ((a0.length : Int) != (a1.length : Int)) (some false) ((rangeM (m_slices_Equal_api_Chord_api_Chord_l1 a1) 0 a0 ()).bind fun f7 => Flow.fin f7 fun u4 => some true)
def m_chord_rootWords  : Option (List ByteArray) :=
  some [(ByteArray.mk [99].toArray), (ByteArray.mk [99, 35].toArray), (ByteArray.mk [100].toArray), (ByteArray.mk [100, 35].toArray), (ByteArray.mk [101].toArray), (ByteArray.mk [102].toArray), (ByteArray.mk [102, 35].toArray), (ByteArray.mk [103].toArray), (ByteArray.mk [103, 35].toArray), (ByteArray.mk [97].toArray), (ByteArray.mk [97, 35].toArray), (ByteArray.mk [98].toArray)]
def m_chord_kindWords  : Option (List ByteArray) :=
  some [ByteArray.empty, (ByteArray.mk [109, 97, 106].toArray), (ByteArray.mk [109, 105, 110].toArray), (ByteArray.mk [100, 105, 109].toArray), (ByteArray.mk [97, 117, 103].toArray), (ByteArray.mk [55].toArray), (ByteArray.mk [109, 97, 106, 55].toArray), (ByteArray.mk [109, 105, 110, 55].toArray)]
def m_chord_Name (a0 : TChord) : Option (ByteArray × Int) :=
  (m_chord_CheckChord a0).bind fun y2 => ifB (y2 != 0) (some (ByteArray.empty, y2)) ((m_chord_rootWords.bind fun y6 => (getI y6 a0.Root).bind fun e8 => (catM e8 (ByteArray.mk [32].toArray)).bind fun c9 => m_chord_kindWords.bind fun y10 => (getI y10 a0.Kind).bind fun e12 => (catM c9 e12).bind fun c13 => some (.inl c13) : Option (ByteArray ⊕ (ByteArray × Int))).bind fun k5 => Sum.fin k5 fun u3 => ifB (decide (a0.Turn > 0)) ((m_strconv_Itoa a0.Turn).bind fun y18 => (catM (ByteArray.mk [47].toArray) y18).bind fun c19 => (catM u3 c19).bind fun c20 => some (c20, 0)) (some (u3, 0)))
def m_gleelaw2_sounded  : Option Bool :=
  (m_chord_Name (TChord.mk 1 2 1)).bind fun y1 => ifB (y1.2 == 0) (some (y1.1.toList == (ByteArray.mk [99, 35, 32, 109, 105, 110, 47, 49].toArray).toList)) (some false)
def m_gleelaw2_ChordsFollow (a0 : (List Int)) : Option Bool :=
  (m_gleemake_Stream_Follows a0 0).bind fun y2 => (m_gleemake_Stream_AChord a0 y2.2).bind fun y4 => (m_gleemake_Stream_AChord a0 y4.2).bind fun y5 => (m_gleemake_Stream_Range a0 y5.2 0 5).bind fun y6 => (m_gleemake_Stream_Chords a0 y6.2 y6.1).bind fun y7 => (m_gleemake_Stream_Flip a0 y7.2 2).bind fun y11 => (ifB y11.1 ((m_gleemake_Stream_Range a0 y11.2 0 11).bind fun y15 => (m_gleemake_Stream_Pick a0 y15.2 [1, 2, 5]).bind fun y17 => (m_gleemake_Stream_Range a0 y17.2 0 11).bind fun y18 => (m_gleemake_Stream_Pick a0 y18.2 [1, 2, 5]).bind fun y20 => some (.inl (y15.1, y17.1, 0, y18.1, y20.1, 0))) (some (.inl (y4.1.Root, y4.1.Kind, y4.1.Turn, y5.1.Root, y5.1.Kind, y5.1.Turn))) : Option ((Int × Int × Int × Int × Int × Int) ⊕ Bool)).bind fun k14 => Sum.fin k14 fun u12 => (m_chord_May y2.1 (TChord.mk u12.1 u12.2.1 u12.2.2.1) (TChord.mk u12.2.2.2.1 u12.2.2.2.2.1 u12.2.2.2.2.2)).bind fun y21 => (m_chord_Broken y2.1 y7.1).bind fun y22 => (m_chord_Way y2.1 (TChord.mk u12.1 u12.2.1 u12.2.2.1) (TChord.mk u12.2.2.2.1 u12.2.2.2.2.1 u12.2.2.2.2.2)).bind fun y24 => (m_gleeref2_FollowsFault y2.1).bind fun y26 => (m_gleeref2_ChordFault (TChord.mk u12.1 u12.2.1 u12.2.2.1)).bind fun y27 => (m_gleeref2_ChordFault (TChord.mk u12.2.2.2.1 u12.2.2.2.2.1 u12.2.2.2.2.2)).bind fun y28 => (m_gleelaw2_errs [y26, y27, y28]).bind fun y30 => (m_gleeref2_ChordsFault y7.1 144).bind fun y31 => (m_gleelaw2_errs [y26, y31]).bind fun y33 => (ifB (y30 == 0) ((m_gleeref2_MayFollow y2.1 (TChord.mk u12.1 u12.2.1 u12.2.2.1) (TChord.mk u12.2.2.2.1 u12.2.2.2.2.1 u12.2.2.2.2.2)).bind fun y38 => (m_gleeref2_WayOf y2.1 (TChord.mk u12.1 u12.2.1 u12.2.2.1) (TChord.mk u12.2.2.2.1 u12.2.2.2.2.1 u12.2.2.2.2.2)).bind fun y39 => some (.inl (y38, y39.2, y39.1))) (some (.inl (false, false, []))) : Option ((Bool × Bool × (List TChord)) ⊕ Bool)).bind fun k37 => Sum.fin k37 fun u34 => (ifB (y33 == 0) ((m_gleeref2_BrokenOf y2.1 y7.1).bind fun y46 => some (.inl y46)) (some (.inl [])) : Option ((List Int) ⊕ Bool)).bind fun k45 => Sum.fin k45 fun u42 => (m_chord_CheckFollows y2.1).bind fun y49 => ifB (y49 == y26) (ifB (y21.2 == y30) (ifB (y21.1 == u34.1) (ifB (y22.2 == y33) ((m_slices_Equal_int_int y22.1 u42).bind fun y50 => ifB y50 (ifB (y24.2.2 == y30) ((m_slices_Equal_api_Chord_api_Chord y24.1 u34.2.2).bind fun y51 => ifB y51 (ifB (y24.2.1 == u34.2.1) (m_gleelaw2_sounded.bind fun y52 => some y52) (some false)) (some false)) (some false)) (some false)) (some false)) (some false)) (some false)) (some false)
end
end Go.G
