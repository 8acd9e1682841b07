/- The models. Written by program. -/
import Derived.Test.YthonhgainmokhabDoorXM
namespace Go.G
open Go Go.J
set_option linter.unusedVariables false
noncomputable section
structure Tgleemake_Stream where
  L : (List Int)
  at_ : Int
  deriving DecidableEq, Inhabited
structure TRange where
  Low : Int
  High : Int
  deriving DecidableEq, Inhabited
structure TChord where
  Root : Int
  Kind : Int
  Turn : Int
  deriving DecidableEq, Inhabited
structure Tchord_finder where
  c : TChord
  r : (List TRange)
  tones : (List Int)
  rows : (List (List Int))
  deriving DecidableEq, Inhabited
structure TFault where
  At : Int
  Kind : Int
  Low : Int
  High : Int
  deriving DecidableEq, Inhabited
def m_gleemake_Below (a0 : Int) (a1 : Int) : Option Int :=
  ifB (decide (a1 < 1)) (some 0) ((remM a0 a1).bind fun z1 => ifB (decide (z1 < 0)) (some (w64 (z1 + a1))) (some z1))
def m_gleemake_Stream_Next (a0_0 : (List Int)) (a0_1 : Int) (a1 : Int) : Option (Int × Int) :=
  ifB ((a0_0.length : Int) == 0) ((m_gleemake_Below (w64 ((w64 (a0_1 + 1)) * 7919)) a1).bind fun y1 => some (y1, w64 (a0_1 + 1))) ((remM (w64 ((w64 (a0_1 + 1)) - 1)) (a0_0.length : Int)).bind fun z2 => (quoM (w64 ((w64 (a0_1 + 1)) - 1)) (a0_0.length : Int)).bind fun z3 => (getI a0_0 z2).bind fun e4 => (m_gleemake_Below e4 1073741824).bind fun y5 => (m_gleemake_Below (w64 (y5 + (w64 (z3 * (w64 (7919 + z2)))))) a1).bind fun y6 => some (y6, w64 (a0_1 + 1)))
def m_gleemake_Stream_Range (a0_0 : (List Int)) (a0_1 : Int) (a1 : Int) (a2 : Int) : Option (Int × Int) :=
  ifB (decide (a2 < a1)) (some (a1, a0_1)) ((m_gleemake_Stream_Next a0_0 a0_1 (w64 ((w64 (a2 - a1)) + 1))).bind fun y1 => some (w64 (a1 + y1.1), y1.2))
def m_gleemake_Stream_Flip (a0_0 : (List Int)) (a0_1 : Int) (a1 : Int) : Option (Bool × Int) :=
  (m_gleemake_Stream_Next a0_0 a0_1 a1).bind fun y1 => some (y1.1 == 0, y1.2)
def m_gleemake_Stream_Pick (a0_0 : (List Int)) (a0_1 : Int) (a1 : (List Int)) : Option (Int × Int) :=
  (m_gleemake_Stream_Next a0_0 a0_1 (a1.length : Int)).bind fun y1 => (getI a1 y1.1).bind fun e2 => some (e2, y1.2)
def m_gleemake_Stream_Odd (a0_0 : (List Int)) (a0_1 : Int) (a1 : Int) (a2 : Int) : Option (Int × Int) :=
  (m_gleemake_Stream_Flip a0_0 a0_1 12).bind fun y1 => ifB y1.1 ((m_gleemake_Stream_Pick a0_0 y1.2 [w64 (a1 - 1), w64 (a2 + 1), a1, a2, (-1099511627776), 1099511627776]).bind fun y3 => some (y3.1, y3.2)) ((m_gleemake_Stream_Range a0_0 y1.2 a1 a2).bind fun y4 => some (y4.1, y4.2))
def m_gleemake_Stream_AChord (a0_0 : (List Int)) (a0_1 : Int) : Option (TChord × Int) :=
  (m_gleemake_Stream_Flip a0_0 a0_1 40).bind fun y2 => ifB y2.1 ((m_gleemake_Stream_Odd a0_0 y2.2 0 11).bind fun y3 => (m_gleemake_Stream_Odd a0_0 y3.2 1 7).bind fun y4 => (m_gleemake_Stream_Odd a0_0 y4.2 0 3).bind fun y5 => some ((TChord.mk y3.1 y4.1 y5.1), y5.2)) ((m_gleemake_Stream_Range a0_0 y2.2 0 11).bind fun y6 => (m_gleemake_Stream_Range a0_0 y6.2 1 7).bind fun y7 => (m_gleemake_Stream_Pick a0_0 y7.2 [0, 0, 0, 1, 2]).bind fun y9 => some ((TChord.mk y6.1 y7.1 y9.1), y9.2))
def m_gleemake_Stream_Chords_l1 (a0_0 : (List Int)) (i1 : Nat) (x2 : Nat) (u5 : (Int × (List TChord))) : Option (Flow (Int × (List TChord)) ((List TChord) × Int)) :=
  (m_gleemake_Stream_AChord a0_0 u5.1).bind fun y10 => (m_gleemake_Stream_Flip a0_0 y10.2 2).bind fun y12 => (ifB y12.1 ((m_gleemake_Stream_Pick a0_0 y12.2 [0, 5, 7]).bind fun y17 => some (.inl (y17.2, y17.1, 1, 0))) (some (.inl (y12.2, y10.1.Root, y10.1.Kind, y10.1.Turn))) : Option ((Int × Int × Int × Int) ⊕ (Flow (Int × (List TChord)) ((List TChord) × Int)))).bind fun k15 => Sum.fin k15 fun u13 => (appM 24 u5.2 [(TChord.mk u13.2.1 u13.2.2.1 u13.2.2.2)]).bind fun q19 => some (.nxt (u13.1, q19))
def m_gleemake_Stream_Chords (a0_0 : (List Int)) (a0_1 : Int) (a1 : Int) : Option ((List TChord) × Int) :=
  (rangeI a1).bind fun L22 => (rangeM (m_gleemake_Stream_Chords_l1 a0_0) 0 L22 (a0_1, [])).bind fun f8 => Flow.fin f8 fun u5 => some (u5.2, u5.1)
def m_gleemake_Stream_Ranges_l1 (a0_0 : (List Int)) (i4 : Nat) (x5 : Int) (u8 : (Int × (List TRange))) : Option (Flow (Int × (List TRange)) ((List TRange) × Int)) :=
  (m_gleemake_Stream_Range a0_0 u8.1 (-2) 2).bind fun y13 => (m_gleemake_Stream_Pick a0_0 y13.2 [7, 9, 11, 12]).bind fun y15 => (appM 16 u8.2 [(TRange.mk (w64 (x5 + y13.1)) (w64 ((w64 (x5 + y13.1)) + y15.1)))]).bind fun q17 => some (.nxt (y15.2, q17))
def m_gleemake_Stream_Ranges (a0_0 : (List Int)) (a0_1 : Int) : Option ((List TRange) × Int) :=
  (m_gleemake_Stream_Range a0_0 a0_1 1 4).bind fun y2 => (sliceI [45, 52, 59, 64] 0 y2.1).bind fun q3 => (rangeM (m_gleemake_Stream_Ranges_l1 a0_0) 0 q3 (y2.2, [])).bind fun f11 => Flow.fin f11 fun u8 => (m_gleemake_Stream_Flip a0_0 u8.1 20).bind fun y20 => ifB y20.1 ((m_gleemake_Stream_Next a0_0 y20.2 (u8.2.length : Int)).bind fun y21 => (getI u8.2 y21.1).bind fun e22 => (m_gleemake_Stream_Odd a0_0 y21.2 0 60).bind fun y23 => (m_gleemake_Stream_Odd a0_0 y23.2 0 127).bind fun y24 => some (((u8.2.set y21.1.toNat (TRange.mk y23.1 e22.High)).set y21.1.toNat (TRange.mk y23.1 y24.1)), y24.2)) (some (u8.2, y20.2))
def m_gleemake_Stream_Leap (a0_0 : (List Int)) (a0_1 : Int) : Option (Int × Int) :=
  (m_gleemake_Stream_Pick a0_0 a0_1 [2, 4, 5, 7, 12, 24, 0, (-1), 25]).bind fun y2 => some (y2.1, y2.2)
def m_gleemake_Stream_WideRanges_l1 (a0_0 : (List Int)) (i2 : Nat) (x3 : Nat) (u6 : (Int × (List TRange))) : Option (Flow (Int × (List TRange)) ((List TRange) × Int)) :=
  (m_gleemake_Stream_Range a0_0 u6.1 18 24).bind fun y11 => (appM 16 u6.2 [(TRange.mk (w64 (36 + (w64 (6 * (i2 : Int))))) (w64 ((w64 (36 + (w64 (6 * (i2 : Int))))) + y11.1)))]).bind fun q13 => some (.nxt (y11.2, q13))
def m_gleemake_Stream_WideRanges (a0_0 : (List Int)) (a0_1 : Int) : Option ((List TRange) × Int) :=
  (m_gleemake_Stream_Range a0_0 a0_1 4 5).bind fun y1 => (rangeI y1.1).bind fun L16 => (rangeM (m_gleemake_Stream_WideRanges_l1 a0_0) 0 L16 (y1.2, [])).bind fun f9 => Flow.fin f9 fun u6 => some (u6.2, u6.1)
def m_kit_Outside (a0 : Int) (a1 : Int) (a2 : Int) : Option Bool :=
  ifB (decide (a0 < a1)) (some true) (some (decide (a0 > a2)))
def m_chord_isKind (a0 : Int) : Option Bool :=
  (m_kit_Outside a0 1 7).bind fun y1 => some (!y1)
def m_chord_above (a0 : Int) : Option (List Int) :=
  (getI [[], [0, 4, 7], [0, 3, 7], [0, 3, 6], [0, 4, 8], [0, 4, 7, 10], [0, 4, 7, 11], [0, 3, 7, 10]] a0).bind fun e12 => some e12
def m_chord_CheckChord (a0 : TChord) : Option Int :=
  (m_kit_Outside a0.Root 0 11).bind fun y2 => ifB y2 (some 1) ((m_chord_isKind a0.Kind).bind fun y3 => ifB (!y3) (some 4) ((m_chord_above a0.Kind).bind fun y4 => (m_kit_Outside a0.Turn 0 (w64 ((y4.length : Int) - 1))).bind fun y6 => ifB y6 (some 1) (some 0)))
def m_chord_checkAll_l1  (i1 : Nat) (x2 : TChord) (u4 : Unit) : Option (Flow Unit Int) :=
  (m_chord_CheckChord x2).bind fun y9 => ifB (y9 != 0) (some (.ret y9)) (some (.nxt ()))
def m_chord_checkAll (a0 : (List TChord)) : Option Int :=
  (rangeM m_chord_checkAll_l1 0 a0 ()).bind fun f7 => Flow.fin f7 fun u4 => some 0
def m_chord_rangesFault_1 (a0 : TRange) : Option Bool :=
  some (decide ((w64 ((w64 (a0.High - a0.Low)) + 1)) > 25))
def m_slices_IndexFunc_api_Range_api_Range__chord_rangesFault_1_l1  (i1 : Nat) (x2 : TRange) (u4 : Unit) : Option (Flow Unit Int) :=
  (m_chord_rangesFault_1 x2).bind fun y8 => ifB y8 (some (.ret (i1 : Int))) (some (.nxt ()))
def m_slices_IndexFunc_api_Range_api_Range__chord_rangesFault_1 (a0 : (List TRange)) : Option Int :=
  (rangeM m_slices_IndexFunc_api_Range_api_Range__chord_rangesFault_1_l1 0 a0 ()).bind fun f7 => Flow.fin f7 fun u4 => some (-1)
def m_slices_ContainsFunc_api_Range_api_Range__chord_rangesFault_1 (a0 : (List TRange)) : Option Bool :=
  (m_slices_IndexFunc_api_Range_api_Range__chord_rangesFault_1 a0).bind fun y1 => some (decide (y1 ≥ 0))
def m_chord_rangesFault_l1  (i1 : Nat) (x2 : TRange) (u4 : Unit) : Option (Flow Unit Int) :=
  ((m_kit_Outside x2.Low 0 x2.High).bind fun y12 => ifB y12 (some (.inl true)) (some (.inl (decide (x2.High > 127)))) : Option (Bool ⊕ (Flow Unit Int))).bind fun k11 => Sum.fin k11 fun u9 => ifB u9 (some (.ret 1)) (some (.nxt ()))
def m_chord_rangesFault (a0 : (List TRange)) : Option Int :=
  ifB ((a0.length : Int) == 0) (some 8) (ifB (decide ((a0.length : Int) > 5)) (some 2) ((rangeM m_chord_rangesFault_l1 0 a0 ()).bind fun f7 => Flow.fin f7 fun u4 => (m_slices_ContainsFunc_api_Range_api_Range__chord_rangesFault_1 a0).bind fun y13 => ifB y13 (some 2) (some 0)))
def m_chord_bestFault (a0 : (List TChord)) (a1 : (List TRange)) (a2 : Int) : Option Int :=
  ifB ((a0.length : Int) == 0) (some 8) (ifB (decide ((a0.length : Int) > 12)) (some 2) ((m_chord_checkAll a0).bind fun y1 => ifB (y1 != 0) (some y1) ((m_chord_rangesFault a1).bind fun y2 => ifB (y2 != 0) (some y2) ((m_kit_Outside a2 0 24).bind fun y3 => ifB y3 (some 1) (some 0)))))
def m_chord_tones_l1 (a0 : TChord) (y2 : (List Int)) (i4 : Nat) (x5 : Int) (u8 : (List Int)) : Option (Flow (List Int) (List Int)) :=
  (remM (w64 ((i4 : Int) + a0.Turn)) (y2.length : Int)).bind fun z13 => (getI y2 z13).bind fun e14 => (appM 8 u8 [(w64 (a0.Root + e14)).tmod 12]).bind fun q16 => some (.nxt q16)
def m_chord_tones (a0 : TChord) : Option (List Int) :=
  (m_chord_above a0.Kind).bind fun y2 => (rangeM (m_chord_tones_l1 a0 y2) 0 y2 []).bind fun f11 => Flow.fin f11 fun u8 => some u8
def m_chord_set_l1  (i1 : Nat) (x2 : Int) (u5 : (List Int)) : Option (Flow (List Int) (List Int)) :=
  (appM 8 u5 [x2.tmod 12]).bind fun q11 => some (.nxt q11)
def m_chord_set (a0 : (List Int)) : Option (List Int) :=
  (rangeM m_chord_set_l1 0 a0 []).bind fun f8 => Flow.fin f8 fun u5 => (m_slices_Sort_int_int u5).bind fun y14 => (m_slices_Compact_int_int y14).bind fun y15 => some y15
def m_slices_Equal_int_int_l1 (a1 : (List Int)) (i1 : Nat) (x2 : Int) (u4 : Unit) : Option (Flow Unit Bool) :=
  (getI a1 (i1 : Int)).bind fun e8 => ifB (x2 != e8) (some (.ret false)) (some (.nxt ()))
def m_slices_Equal_int_int (a0 : (List Int)) (a1 : (List Int)) : Option Bool :=
  ifB ((a0.length : Int) != (a1.length : Int)) (some false) ((rangeM (m_slices_Equal_int_int_l1 a1) 0 a0 ()).bind fun f7 => Flow.fin f7 fun u4 => some true)
def m_chord_fits (a0 : TChord) (a1 : (List Int)) : Option Bool :=
  (m_chord_tones a0).bind fun y2 => ((getI a1 0).bind fun e7 => (getI y2 0).bind fun e8 => ifB ((e7.tmod 12) == e8) ((m_chord_set a1).bind fun y9 => (m_chord_set y2).bind fun y11 => (m_slices_Equal_int_int y9 y11).bind fun y13 => some (.inl y13)) (some (.inl false)) : Option (Bool ⊕ Bool)).bind fun k6 => Sum.fin k6 fun u4 => some u4
def m_slices_Clone_int_int (a0 : (List Int)) : Option (List Int) :=
  (appM 8 ([] : List Int) a0).bind fun q3 => some q3
def m_slices_Index_int_int_l1 (a1 : Int) (i1 : Nat) (x2 : Int) (u4 : Unit) : Option (Flow Unit Int) :=
  ifB (a1 == x2) (some (.ret (i1 : Int))) (some (.nxt ()))
def m_slices_Index_int_int (a0 : (List Int)) (a1 : Int) : Option Int :=
  (rangeM (m_slices_Index_int_int_l1 a1) 0 a0 ()).bind fun f7 => Flow.fin f7 fun u4 => some (-1)
def m_slices_Contains_int_int (a0 : (List Int)) (a1 : Int) : Option Bool :=
  (m_slices_Index_int_int a0 a1).bind fun y1 => some (decide (y1 ≥ 0))
def m_chord_finder_find_l1 (a0_0 : Int) (a0_1 : Int) (a0_2 : Int) (a0_3 : (List TRange)) (a0_4 : (List Int)) (a1 : (List Int)) (self_ : (Int → Int → Int → (List TRange) → (List Int) → (List (List Int)) → (List Int) → Option (List (List Int)))) (u17 : (Int × (List (List Int)))) : Option (Flow (Int × (List (List Int))) (List (List Int))) :=
  (getI a0_3 (a1.length : Int)).bind fun e21 => ifB (decide (u17.1 ≤ e21.High)) (((m_slices_Contains_int_int a0_4 (u17.1.tmod 12)).bind fun y25 => ifB (!y25) (some (.inl true)) (ifB ((a1.length : Int) == 0) ((getI a0_4 0).bind fun e26 => some (.inl ((u17.1.tmod 12) != e26))) (some (.inl false))) : Option (Bool ⊕ (Flow (Int × (List (List Int))) (List (List Int))))).bind fun k24 => Sum.fin k24 fun u22 => ifB u22 (some (.nxt (w64 (u17.1 + 1), u17.2))) ((ifB (decide ((a1.length : Int) > 0)) ((getI a1 (w64 ((a1.length : Int) - 1))).bind fun e30 => ifB (decide (u17.1 < e30)) (some (.inl true)) (ifB (decide ((a1.length : Int) > 1)) ((getI a1 (w64 ((a1.length : Int) - 1))).bind fun e31 => some (.inl (decide ((w64 (u17.1 - e31)) > 12)))) (some (.inl false)))) (some (.inl false)) : Option (Bool ⊕ (Flow (Int × (List (List Int))) (List (List Int))))).bind fun k29 => Sum.fin k29 fun u27 => ifB u27 (some (.nxt (w64 (u17.1 + 1), u17.2))) ((appM 8 a1 [u17.1]).bind fun q33 => (self_ a0_0 a0_1 a0_2 a0_3 a0_4 u17.2 q33).bind fun y36 => some (.nxt (w64 (u17.1 + 1), y36))))) (some (.brk (u17.1, u17.2)))
def m_chord_finder_find_b (self_ : (Int → Int → Int → (List TRange) → (List Int) → (List (List Int)) → (List Int) → Option (List (List Int)))) (a0_0 : Int) (a0_1 : Int) (a0_2 : Int) (a0_3 : (List TRange)) (a0_4 : (List Int)) (a0_5 : (List (List Int))) (a1 : (List Int)) : Option (List (List Int)) :=
  ifB (decide ((a0_5.length : Int) > 1000)) (some a0_5) (ifB ((a1.length : Int) == (a0_3.length : Int)) ((m_chord_fits (TChord.mk a0_0 a0_1 a0_2) a1).bind fun y1 => (ifB y1 ((m_slices_Clone_int_int a1).bind fun y5 => (appM 24 a0_5 [y5]).bind fun q8 => some (.inl q8)) (some (.inl a0_5)) : Option ((List (List Int)) ⊕ (List (List Int)))).bind fun k4 => Sum.fin k4 fun u2 => some u2) ((getI a0_3 (a1.length : Int)).bind fun e16 => (loopM (m_chord_finder_find_l1 a0_0 a0_1 a0_2 a0_3 a0_4 a1 self_) (e16.Low, a0_5)).bind fun f20 => Flow.fin f20 fun u17 => some u17.2))
def m_chord_finder_find : Nat → Int → Int → Int → (List TRange) → (List Int) → (List (List Int)) → (List Int) → Option (List (List Int))
  | 0 => fun _ _ _ _ _ _ _ => none
  | fu_ + 1 => m_chord_finder_find_b (m_chord_finder_find fu_)
def m_chord_size (a0 : Int) : Option Int :=
  some (max a0 (w64 (0 - a0)))
def m_chord_apart_1 (a0 : Int) : Option Int :=
  some ((w64 ((a0.tmod 12) + 12)).tmod 12)
def m_chord_apart (a0 : (List Int)) (a1 : (List Int)) (a2 : Int) (a3 : Int) (a4 : Int) : Option Bool :=
  (getI a1 a2).bind fun e1 => (getI a0 a2).bind fun e2 => (getI a1 a3).bind fun e3 => (getI a0 a3).bind fun e4 => (ifB (decide ((w64 (e1 - e2)) > 0)) (ifB (decide ((w64 (e3 - e4)) > 0)) (some (.inl true)) (ifB (decide ((w64 (e1 - e2)) < 0)) (some (.inl (decide ((w64 (e3 - e4)) < 0)))) (some (.inl false)))) (ifB (decide ((w64 (e1 - e2)) < 0)) (some (.inl (decide ((w64 (e3 - e4)) < 0)))) (some (.inl false))) : Option (Bool ⊕ Bool)).bind fun k7 => Sum.fin k7 fun u5 => ifB u5 ((getI a0 a3).bind fun e8 => (getI a0 a2).bind fun e9 => (m_chord_apart_1 (w64 (e8 - e9))).bind fun y10 => ifB (y10 == a4) ((getI a1 a3).bind fun e11 => (getI a1 a2).bind fun e12 => (m_chord_apart_1 (w64 (e11 - e12))).bind fun y13 => some (y13 == a4)) (some false)) (some false)
def m_chord_moved_l3 (a0 : Int) (a1 : (List Int)) (a2 : (List Int)) (x3 : Int) (u11 : Int) (i14 : Nat) (u22 : (Int × (List TFault))) : Option (Flow (Int × (List TFault)) (Flow (List TFault) (Flow (List TFault) (List TFault)))) :=
  ifB (decide (u22.1 < (a2.length : Int))) ((m_chord_apart a1 a2 (i14 : Int) u22.1 u11).bind fun y27 => ifB y27 ((appM 32 u22.2 [(TFault.mk a0 x3 (i14 : Int) u22.1)]).bind fun q29 => some (.nxt (w64 (u22.1 + 1), q29))) (some (.nxt (w64 (u22.1 + 1), u22.2)))) (some (.brk (u22.1, u22.2)))
def m_chord_moved_l2 (a0 : Int) (a1 : (List Int)) (a2 : (List Int)) (x3 : Int) (u11 : Int) (i14 : Nat) (x15 : Int) (u17 : (List TFault)) : Option (Flow (List TFault) (Flow (List TFault) (List TFault))) :=
  (loopM (m_chord_moved_l3 a0 a1 a2 x3 u11 i14) (w64 ((i14 : Int) + 1), u17)).bind fun f25 => Flow.fin f25 fun u22 => some (.nxt u22.2)
def m_chord_moved_l4 (a0 : Int) (a1 : (List Int)) (a3 : Int) (i34 : Nat) (x35 : Int) (u37 : (List TFault)) : Option (Flow (List TFault) (List TFault)) :=
  (getI a1 (i34 : Int)).bind fun e42 => (m_chord_size (w64 (x35 - e42))).bind fun y43 => ifB (decide (y43 > a3)) ((appM 32 u37 [(TFault.mk a0 5 (i34 : Int) (i34 : Int))]).bind fun q45 => some (.nxt q45)) (some (.nxt u37))
def m_chord_moved_l1 (a0 : Int) (a1 : (List Int)) (a2 : (List Int)) (i2 : Nat) (x3 : Int) (u6 : (List TFault)) : Option (Flow (List TFault) (List TFault)) :=
  (ifB (x3 == 4) (some (.inl 0)) (some (.inl 7)) : Option (Int ⊕ (Flow (List TFault) (List TFault)))).bind fun k13 => Sum.fin k13 fun u11 => (rangeM (m_chord_moved_l2 a0 a1 a2 x3 u11) 0 a2 u6).bind fun f20 => Flow.fin f20 fun u17 => some (.nxt u17)
def m_chord_moved (a0 : Int) (a1 : (List Int)) (a2 : (List Int)) (a3 : Int) : Option (List TFault) :=
  (rangeM (m_chord_moved_l1 a0 a1 a2) 0 [3, 4] []).bind fun f9 => Flow.fin f9 fun u6 => (rangeM (m_chord_moved_l4 a0 a1 a3) 0 a2 u6).bind fun f40 => Flow.fin f40 fun u37 => some u37
def m_chord_moves_l1 (a0 : (List Int)) (i1 : Nat) (x2 : Int) (u4 : Int) : Option (Flow Int Int) :=
  (getI a0 (i1 : Int)).bind fun e8 => (m_chord_size (w64 (x2 - e8))).bind fun y9 => some (.nxt (w64 (u4 + y9)))
def m_chord_moves (a0 : (List Int)) (a1 : (List Int)) : Option Int :=
  (rangeM (m_chord_moves_l1 a0) 0 a1 0).bind fun f7 => Flow.fin f7 fun u4 => some u4
def m_chord_by_l1 (a0 : (List Int)) (a2 : Int) (i1 : Nat) (x2 : Int) (u4 : Unit) : Option (Flow Unit Int) :=
  (getI a0 (i1 : Int)).bind fun e8 => (m_chord_size (w64 (x2 - e8))).bind fun y9 => ifB (decide (y9 > a2)) (some (.ret (-1))) (some (.nxt ()))
def m_chord_by (a0 : (List Int)) (a1 : (List Int)) (a2 : Int) (a3 : Int) : Option Int :=
  ifB (a3 == (-1)) (some (-1)) ((rangeM (m_chord_by_l1 a0 a2) 0 a1 ()).bind fun f7 => Flow.fin f7 fun u4 => (m_chord_moved 0 a0 a1 a2).bind fun y10 => ifB (decide ((y10.length : Int) > 0)) (some (-1)) ((m_chord_moves a0 a1).bind fun y12 => some (w64 (y12 + a3))))
def m_chord_rests_l3 (a1 : Int) (x21 : (List Int)) (u23 : (List (List Int))) (u14 : (Int × (List (List Int)))) (i29 : Nat) (x30 : (List Int)) (u32 : Int) : Option (Flow Int (Flow (List (List Int)) (Flow (Int × (List (List Int))) (List (List Int))))) :=
  (getI u23 (w64 (u14.1 + 1))).bind fun e36 => (getI e36 (i29 : Int)).bind fun e37 => (m_chord_by x21 x30 a1 e37).bind fun y38 => (ifB (y38 != (-1)) (ifB (u32 == (-1)) (some (.inl true)) (some (.inl (decide (y38 < u32))))) (some (.inl false)) : Option (Bool ⊕ (Flow Int (Flow (List (List Int)) (Flow (Int × (List (List Int))) (List (List Int))))))).bind fun k41 => Sum.fin k41 fun u39 => ifB u39 (some (.nxt y38)) (some (.nxt u32))
def m_chord_rests_l2 (a0 : (List (List (List Int)))) (a1 : Int) (u14 : (Int × (List (List Int)))) (i20 : Nat) (x21 : (List Int)) (u23 : (List (List Int))) : Option (Flow (List (List Int)) (Flow (Int × (List (List Int))) (List (List Int)))) :=
  (getI a0 (w64 (u14.1 + 1))).bind fun e28 => (rangeM (m_chord_rests_l3 a1 x21 u23 u14) 0 e28 (-1)).bind fun f35 => Flow.fin f35 fun u32 => (getI u23 u14.1).bind fun e42 => (appM 8 e42 [u32]).bind fun q46 => (getI u23 u14.1).bind fun e48 => some (.nxt (u23.set u14.1.toNat q46))
def m_chord_rests_l1 (a0 : (List (List (List Int)))) (a1 : Int) (u14 : (Int × (List (List Int)))) : Option (Flow (Int × (List (List Int))) (List (List Int))) :=
  ifB (decide (u14.1 ≥ 0)) ((getI a0 u14.1).bind fun e19 => (rangeM (m_chord_rests_l2 a0 a1 u14) 0 e19 u14.2).bind fun f26 => Flow.fin f26 fun u23 => some (.nxt (w64 (u14.1 - 1), u23))) (some (.brk (u14.1, u14.2)))
def m_chord_rests (a0 : (List (List (List Int)))) (a1 : Int) : Option (List (List Int)) :=
  (makeM 24 ([] : (List Int)) (a0.length : Int)).bind fun q4 => (getI a0 (w64 ((a0.length : Int) - 1))).bind fun e6 => (makeM 8 (0 : Int) (e6.length : Int)).bind fun q7 => (getI q4 (w64 ((a0.length : Int) - 1))).bind fun e9 => (loopM (m_chord_rests_l1 a0 a1) (w64 ((w64 ((a0.length : Int) - 1)) - 1), (q4.set ((w64 ((a0.length : Int) - 1)).toNat) q7))).bind fun f17 => Flow.fin f17 fun u14 => some u14.2
def m_chord_Best_l4 (a2 : Int) (u7 : (List (List (List Int)))) (y41 : (List (List Int))) (e68 : (List Int)) (u63 : (Int × Int × (List (List Int)))) (u69 : Int) : Option (Flow Int (Flow (Int × Int × (List (List Int))) ((List (List Int)) × Int × Bool × Int))) :=
  (getI u7 u63.1).bind fun e74 => (getI e74 u69).bind fun e75 => (getI y41 u63.1).bind fun e76 => (getI e76 u69).bind fun e77 => (m_chord_by e68 e75 a2 e77).bind fun y78 => ifB (y78 != u63.2.1) (some (.nxt (w64 (u69 + 1)))) (some (.brk u69))
def m_chord_Best_l3 (a0 : (List TChord)) (a2 : Int) (u7 : (List (List (List Int)))) (y41 : (List (List Int))) (u63 : (Int × Int × (List (List Int)))) : Option (Flow (Int × Int × (List (List Int))) ((List (List Int)) × Int × Bool × Int)) :=
  ifB (decide (u63.1 < (a0.length : Int))) ((getI u63.2.2 (w64 ((u63.2.2.length : Int) - 1))).bind fun e68 => (loopM (m_chord_Best_l4 a2 u7 y41 e68 u63) 0).bind fun f72 => Flow.fin f72 fun u69 => (getI u7 u63.1).bind fun e79 => (getI e79 u69).bind fun e80 => (appM 24 u63.2.2 [e80]).bind fun q82 => (getI y41 u63.1).bind fun e85 => (getI e85 u69).bind fun e86 => some (.nxt (w64 (u63.1 + 1), e86, q82))) (some (.brk (u63.1, u63.2.1, u63.2.2)))
def m_chord_Best_l2 (y41 : (List (List Int))) (i45 : Nat) (x46 : Int) (u48 : Int) : Option (Flow Int ((List (List Int)) × Int × Bool × Int)) :=
  (ifB (x46 != (-1)) (ifB (u48 == (-1)) (some (.inl true)) ((getI y41 0).bind fun e55 => (getI e55 u48).bind fun e56 => some (.inl (decide (x46 < e56))))) (some (.inl false)) : Option (Bool ⊕ (Flow Int ((List (List Int)) × Int × Bool × Int)))).bind fun k54 => Sum.fin k54 fun u52 => ifB u52 (some (.nxt (i45 : Int))) (some (.nxt u48))
def m_chord_Best_l1 (a1 : (List TRange)) (i3 : Nat) (x4 : TChord) (u7 : (List (List (List Int)))) : Option (Flow (List (List (List Int))) ((List (List Int)) × Int × Bool × Int)) :=
  (m_chord_tones x4).bind fun y13 => (makeM 8 (0 : Int) (a1.length : Int)).bind fun q16 => (m_chord_finder_find FUEL x4.Root x4.Kind x4.Turn a1 y13 [] []).bind fun y19 => ifB (decide ((y19.length : Int) > 1000)) (some (.ret ([], 0, false, 12))) ((appM 24 u7 [y19]).bind fun q24 => some (.nxt q24))
def m_chord_Best (a0 : (List TChord)) (a1 : (List TRange)) (a2 : Int) : Option ((List (List Int)) × Int × Bool × Int) :=
  (m_chord_bestFault a0 a1 a2).bind fun y1 => ifB (y1 != 0) (some ([], 0, false, y1)) ((rangeM (m_chord_Best_l1 a1) 0 a0 []).bind fun f10 => Flow.fin f10 fun u7 => (m_chord_rests u7 a2).bind fun y41 => (getI y41 0).bind fun e44 => (rangeM (m_chord_Best_l2 y41) 0 e44 (-1)).bind fun f51 => Flow.fin f51 fun u48 => ifB (u48 == (-1)) (some ([], 0, false, 0)) ((getI u7 0).bind fun e58 => (getI e58 u48).bind fun e59 => (getI y41 0).bind fun e61 => (getI e61 u48).bind fun e62 => (loopM (m_chord_Best_l3 a0 a2 u7 y41) (1, e62, [e59])).bind fun f66 => Flow.fin f66 fun u63 => some (u63.2.2, e62, true, 0)))
def m_gleelaw2_when (a0 : Bool) (a1 : Int) : Option Int :=
  ifB a0 (some a1) (some 0)
def m_gleeref2_in (a0 : Int) (a1 : Int) (a2 : Int) : Option Bool :=
  ifB (decide (a1 ≤ a0)) (some (decide (a0 ≤ a2))) (some false)
def m_gleeref2_kindTones (a0 : Int) : Option (List Int) :=
  (getI [[], [0, 4, 7], [0, 3, 7], [0, 3, 6], [0, 4, 8], [0, 4, 7, 10], [0, 4, 7, 11], [0, 3, 7, 10]] a0).bind fun e12 => some e12
def m_gleeref2_ChordFault (a0 : TChord) : Option Int :=
  (m_gleeref2_in a0.Root 0 11).bind fun y2 => ifB (!y2) (some 1) ((m_gleeref2_in a0.Kind 1 7).bind fun y3 => ifB (!y3) (some 4) ((m_gleeref2_kindTones a0.Kind).bind fun y4 => (m_gleeref2_in a0.Turn 0 (w64 ((y4.length : Int) - 1))).bind fun y6 => ifB (!y6) (some 1) (some 0)))
def m_gleeref2_ChordsFault_l1  (i1 : Nat) (x2 : TChord) (u4 : Unit) : Option (Flow Unit Int) :=
  (m_gleeref2_ChordFault x2).bind fun y9 => ifB (y9 != 0) (some (.ret y9)) (some (.nxt ()))
def m_gleeref2_ChordsFault (a0 : (List TChord)) (a1 : Int) : Option Int :=
  ifB (decide ((a0.length : Int) > a1)) (some 2) ((rangeM m_gleeref2_ChordsFault_l1 0 a0 ()).bind fun f7 => Flow.fin f7 fun u4 => some 0)
def m_gleeref2_RangesFault_1 (a0 : TRange) : Option Bool :=
  some (decide ((w64 (a0.High - a0.Low)) > 24))
def m_slices_IndexFunc_api_Range_api_Range__gleeref2_RangesFault_1_l1  (i1 : Nat) (x2 : TRange) (u4 : Unit) : Option (Flow Unit Int) :=
  (m_gleeref2_RangesFault_1 x2).bind fun y8 => ifB y8 (some (.ret (i1 : Int))) (some (.nxt ()))
def m_slices_IndexFunc_api_Range_api_Range__gleeref2_RangesFault_1 (a0 : (List TRange)) : Option Int :=
  (rangeM m_slices_IndexFunc_api_Range_api_Range__gleeref2_RangesFault_1_l1 0 a0 ()).bind fun f7 => Flow.fin f7 fun u4 => some (-1)
def m_slices_ContainsFunc_api_Range_api_Range__gleeref2_RangesFault_1 (a0 : (List TRange)) : Option Bool :=
  (m_slices_IndexFunc_api_Range_api_Range__gleeref2_RangesFault_1 a0).bind fun y1 => some (decide (y1 ≥ 0))
def m_gleeref2_RangesFault_l1  (i1 : Nat) (x2 : TRange) (u4 : Unit) : Option (Flow Unit Int) :=
  ((m_gleeref2_in x2.Low 0 x2.High).bind fun y12 => ifB (!y12) (some (.inl true)) (some (.inl (decide (x2.High > 127)))) : Option (Bool ⊕ (Flow Unit Int))).bind fun k11 => Sum.fin k11 fun u9 => ifB u9 (some (.ret 1)) (some (.nxt ()))
def m_gleeref2_RangesFault (a0 : (List TRange)) : Option Int :=
  ifB ((a0.length : Int) == 0) (some 8) (ifB (decide ((a0.length : Int) > 5)) (some 2) ((rangeM m_gleeref2_RangesFault_l1 0 a0 ()).bind fun f7 => Flow.fin f7 fun u4 => (m_slices_ContainsFunc_api_Range_api_Range__gleeref2_RangesFault_1 a0).bind fun y13 => ifB y13 (some 2) (some 0)))
def m_gleelaw2_leapFault (a0 : Int) : Option Int :=
  ifB (decide (a0 < 0)) ((m_gleelaw2_when true 1).bind fun y1 => some y1) ((m_gleelaw2_when (decide (a0 > 24)) 1).bind fun y2 => some y2)
def m_gleelaw2_errs_l1  (i1 : Nat) (x2 : Int) (u4 : Unit) : Option (Flow Unit Int) :=
  ifB (x2 != 0) (some (.ret x2)) (some (.nxt ()))
def m_gleelaw2_errs (a0 : (List Int)) : Option Int :=
  (rangeM m_gleelaw2_errs_l1 0 a0 ()).bind fun f7 => Flow.fin f7 fun u4 => some 0
def m_gleeref2_TonesOf_l1 (a0 : TChord) (i4 : Nat) (x5 : Int) (u8 : (List Int)) : Option (Flow (List Int) (List Int)) :=
  (appM 8 u8 [(w64 (a0.Root + x5)).tmod 12]).bind fun q14 => some (.nxt q14)
def m_gleeref2_TonesOf (a0 : TChord) : Option (List Int) :=
  (m_gleeref2_kindTones a0.Kind).bind fun y2 => (rangeM (m_gleeref2_TonesOf_l1 a0) 0 y2 []).bind fun f11 => Flow.fin f11 fun u8 => (sliceI u8 a0.Turn (u8.length : Int)).bind fun q17 => (sliceI u8 0 a0.Turn).bind fun q18 => (appM 8 q17 q18).bind fun q19 => some q19
def m_gleeref2_sign (a0 : Int) : Option Int :=
  ifB (decide (a0 < 0)) (some (-1)) (ifB (decide (a0 > 0)) (some 1) (some 0))
def m_gleeref2_faulty_1 (a0 : (List Int)) (a1_0 : Int) (a2_0 : Int) : Option Int :=
  (getI a0 a1_0).bind fun e1 => (getI a0 a2_0).bind fun e2 => some ((w64 (((w64 (e1 - e2)).tmod 12) + 12)).tmod 12)
def m_gleeref2_faulty (a0 : (List Int)) (a1 : (List Int)) (a2 : Int) (a3 : Int) (a4 : Int) (a5 : Int) : Option Bool :=
  (getI a1 a3).bind fun e3 => (getI a0 a3).bind fun e4 => (getI a1 a4).bind fun e5 => (getI a0 a4).bind fun e6 => (ifB (decide (a3 < a4)) (ifB ((w64 (e3 - e4)) != 0) ((m_gleeref2_sign (w64 (e3 - e4))).bind fun y10 => (m_gleeref2_sign (w64 (e5 - e6))).bind fun y11 => some (.inl (y10 == y11))) (some (.inl false))) (some (.inl false)) : Option (Bool ⊕ Bool)).bind fun k9 => Sum.fin k9 fun u7 => ifB (a2 == 1) (ifB (a4 == (w64 (a3 + 1))) ((getI a1 a3).bind fun e12 => (getI a1 a4).bind fun e13 => some (decide (e12 > e13))) (some false)) (ifB (a2 == 2) (ifB (a4 == (w64 (a3 + 1))) (ifB (decide (a3 > 0)) ((getI a1 a4).bind fun e14 => (getI a1 a3).bind fun e15 => (getI a1 a3).bind fun e16 => (getI a1 a4).bind fun e17 => some (decide ((max (w64 (e14 - e15)) (w64 (e16 - e17))) > 12))) (some false)) (some false)) (ifB (a2 == 3) ((ifB u7 ((m_gleeref2_faulty_1 a0 a4 a3).bind fun y21 => ifB (y21 == 7) ((m_gleeref2_faulty_1 a1 a4 a3).bind fun y22 => some (.inl (y22 == 7))) (some (.inl false))) (some (.inl false)) : Option (Bool ⊕ Bool)).bind fun k20 => Sum.fin k20 fun u18 => some u18) (ifB (a2 == 4) ((ifB u7 ((m_gleeref2_faulty_1 a0 a4 a3).bind fun y26 => ifB (y26 == 0) ((m_gleeref2_faulty_1 a1 a4 a3).bind fun y27 => some (.inl (y27 == 0))) (some (.inl false))) (some (.inl false)) : Option (Bool ⊕ Bool)).bind fun k25 => Sum.fin k25 fun u23 => some u23) (ifB (a3 == a4) (some (decide ((max (w64 (e3 - e4)) (w64 (0 - (w64 (e3 - e4))))) > a5))) (some false)))))
def m_gleeref2_FaultsOf_l4 (a1 : Int) (i1 : Nat) (x2 : (List Int)) (u17 : (Int × (List TFault))) (u10 : (List Int)) (i22 : Nat) (u30 : (Int × (List TFault))) : Option (Flow (Int × (List TFault)) (Flow (List TFault) (Flow (Int × (List TFault)) (Flow (List TFault) (List TFault))))) :=
  ifB (decide (u30.1 < (x2.length : Int))) ((m_gleeref2_faulty u10 x2 u17.1 (i22 : Int) u30.1 a1).bind fun y35 => ifB y35 ((appM 32 u30.2 [(TFault.mk (i1 : Int) u17.1 (i22 : Int) u30.1)]).bind fun q37 => some (.nxt (w64 (u30.1 + 1), q37))) (some (.nxt (w64 (u30.1 + 1), u30.2)))) (some (.brk (u30.1, u30.2)))
def m_gleeref2_FaultsOf_l3 (a1 : Int) (i1 : Nat) (x2 : (List Int)) (u17 : (Int × (List TFault))) (u10 : (List Int)) (i22 : Nat) (x23 : Int) (u25 : (List TFault)) : Option (Flow (List TFault) (Flow (Int × (List TFault)) (Flow (List TFault) (List TFault)))) :=
  (loopM (m_gleeref2_FaultsOf_l4 a1 i1 x2 u17 u10 i22) ((i22 : Int), u25)).bind fun f33 => Flow.fin f33 fun u30 => some (.nxt u30.2)
def m_gleeref2_FaultsOf_l2 (a1 : Int) (i1 : Nat) (x2 : (List Int)) (u10 : (List Int)) (u17 : (Int × (List TFault))) : Option (Flow (Int × (List TFault)) (Flow (List TFault) (List TFault))) :=
  ifB (decide (u17.1 ≤ 5)) ((rangeM (m_gleeref2_FaultsOf_l3 a1 i1 x2 u17 u10) 0 x2 u17.2).bind fun f28 => Flow.fin f28 fun u25 => some (.nxt (w64 (u17.1 + 1), u25))) (some (.brk (u17.1, u17.2)))
def m_gleeref2_FaultsOf_l1 (a0 : (List (List Int))) (a1 : Int) (i1 : Nat) (x2 : (List Int)) (u5 : (List TFault)) : Option (Flow (List TFault) (List TFault)) :=
  (ifB (decide ((i1 : Int) > 0)) ((getI a0 (w64 ((i1 : Int) - 1))).bind fun e14 => some (.inl e14)) (some (.inl x2)) : Option ((List Int) ⊕ (Flow (List TFault) (List TFault)))).bind fun k13 => Sum.fin k13 fun u10 => (loopM (m_gleeref2_FaultsOf_l2 a1 i1 x2 u10) (1, u5)).bind fun f20 => Flow.fin f20 fun u17 => some (.nxt u17.2)
def m_gleeref2_FaultsOf (a0 : (List (List Int))) (a1 : Int) : Option (List TFault) :=
  (rangeM (m_gleeref2_FaultsOf_l1 a0 a1) 0 a0 []).bind fun f8 => Flow.fin f8 fun u5 => some u5
def m_gleeref2_classes_l1  (i1 : Nat) (x2 : Int) (u5 : (List Int)) : Option (Flow (List Int) (List Int)) :=
  (appM 8 u5 [x2.tmod 12]).bind fun q11 => some (.nxt q11)
def m_gleeref2_classes (a0 : (List Int)) : Option (List Int) :=
  (rangeM m_gleeref2_classes_l1 0 a0 []).bind fun f8 => Flow.fin f8 fun u5 => (m_slices_Sort_int_int u5).bind fun y14 => (m_slices_Compact_int_int y14).bind fun y15 => some y15
def m_gleeref2_FitsOf (a0 : TChord) (a1 : (List Int)) : Option Bool :=
  ((m_gleeref2_classes a1).bind fun y5 => (m_gleeref2_TonesOf a0).bind fun y7 => (m_gleeref2_classes y7).bind fun y9 => (m_slices_Equal_int_int y5 y9).bind fun y11 => ifB y11 ((getI a1 0).bind fun e12 => (m_gleeref2_TonesOf a0).bind fun y13 => (getI y13 0).bind fun e15 => some (.inl ((e12.tmod 12) == e15))) (some (.inl false)) : Option (Bool ⊕ Bool)).bind fun k4 => Sum.fin k4 fun u2 => some u2
def m_gleeref2_rowsFor_1 (a0 : (List Int)) (a1_0 : Int) (a1_1 : Int) (a1_2 : Int) : Option Bool :=
  (m_gleeref2_FaultsOf [a0] 0).bind fun y2 => ifB (decide ((y2.length : Int) > 0)) (some true) ((m_gleeref2_FitsOf (TChord.mk a1_0 a1_1 a1_2) a0).bind fun y4 => some (!y4))
def m_slices_IndexFunc_int_int__gleeref2_rowsFor_1_l1 (a1_c0_0 : Int) (a1_c0_1 : Int) (a1_c0_2 : Int) (i1 : Nat) (x2 : (List Int)) (u4 : Unit) : Option (Flow Unit Int) :=
  (m_gleeref2_rowsFor_1 x2 a1_c0_0 a1_c0_1 a1_c0_2).bind fun y8 => ifB y8 (some (.ret (i1 : Int))) (some (.nxt ()))
def m_slices_IndexFunc_int_int__gleeref2_rowsFor_1 (a0 : (List (List Int))) (a1_c0_0 : Int) (a1_c0_1 : Int) (a1_c0_2 : Int) : Option Int :=
  (rangeM (m_slices_IndexFunc_int_int__gleeref2_rowsFor_1_l1 a1_c0_0 a1_c0_1 a1_c0_2) 0 a0 ()).bind fun f7 => Flow.fin f7 fun u4 => some (-1)
def m_slices_DeleteFunc_int_int__gleeref2_rowsFor_1_l1 (a1_c0_0 : Int) (a1_c0_1 : Int) (a1_c0_2 : Int) (u2 : (Int × Int × (List (List Int)))) : Option (Flow (Int × Int × (List (List Int))) (List (List Int))) :=
  ifB (decide (u2.2.1 < (u2.2.2.length : Int))) ((getI u2.2.2 u2.2.1).bind fun e6 => (m_gleeref2_rowsFor_1 e6 a1_c0_0 a1_c0_1 a1_c0_2).bind fun y7 => ifB (!y7) ((getI u2.2.2 u2.1).bind fun e8 => some (.nxt (w64 (u2.1 + 1), w64 (u2.2.1 + 1), (u2.2.2.set u2.1.toNat e6)))) (some (.nxt (u2.1, w64 (u2.2.1 + 1), u2.2.2)))) (some (.brk (u2.1, u2.2.1, u2.2.2)))
def m_slices_DeleteFunc_int_int__gleeref2_rowsFor_1 (a0 : (List (List Int))) (a1_c0_0 : Int) (a1_c0_1 : Int) (a1_c0_2 : Int) : Option (List (List Int)) :=
  (m_slices_IndexFunc_int_int__gleeref2_rowsFor_1 a0 a1_c0_0 a1_c0_1 a1_c0_2).bind fun y1 => ifB (y1 == (-1)) (some a0) ((loopM (m_slices_DeleteFunc_int_int__gleeref2_rowsFor_1_l1 a1_c0_0 a1_c0_1 a1_c0_2) (y1, w64 (y1 + 1), a0)).bind fun f5 => Flow.fin f5 fun u2 => (sliceI u2.2.2 u2.1 (u2.2.2.length : Int)).bind fun q10 => (sliceI (clearM ([] : (List Int)) u2.2.2 u2.1) 0 u2.1).bind fun q13 => some q13)
def m_gleeref2_rowsFor_l3 (a0 : TChord) (x7 : TRange) (x16 : (List Int)) (u24 : (Int × (List (List Int)))) : Option (Flow (Int × (List (List Int))) (Flow (List (List Int)) (Flow (List (List Int)) (List (List Int))))) :=
  ifB (decide (u24.1 ≤ x7.High)) ((m_gleeref2_TonesOf a0).bind fun y29 => (m_slices_Contains_int_int y29 (u24.1.tmod 12)).bind fun y31 => ifB y31 ((m_slices_Clone_int_int x16).bind fun y32 => (appM 8 y32 [u24.1]).bind fun q35 => (appM 24 u24.2 [q35]).bind fun q38 => some (.nxt (w64 (u24.1 + 1), q38))) (some (.nxt (w64 (u24.1 + 1), u24.2)))) (some (.brk (u24.1, u24.2)))
def m_gleeref2_rowsFor_l2 (a0 : TChord) (x7 : TRange) (i15 : Nat) (x16 : (List Int)) (u19 : (List (List Int))) : Option (Flow (List (List Int)) (Flow (List (List Int)) (List (List Int)))) :=
  (loopM (m_gleeref2_rowsFor_l3 a0 x7 x16) (x7.Low, u19)).bind fun f27 => Flow.fin f27 fun u24 => some (.nxt u24.2)
def m_gleeref2_rowsFor_l1 (a0 : TChord) (i6 : Nat) (x7 : TRange) (u9 : (List (List Int))) : Option (Flow (List (List Int)) (List (List Int))) :=
  (rangeM (m_gleeref2_rowsFor_l2 a0 x7) 0 u9 []).bind fun f22 => Flow.fin f22 fun u19 => some (.nxt u19)
def m_gleeref2_rowsFor (a0 : TChord) (a1 : (List TRange)) : Option (List (List Int)) :=
  (rangeM (m_gleeref2_rowsFor_l1 a0) 0 a1 [[]]).bind fun f12 => Flow.fin f12 fun u9 => (m_slices_DeleteFunc_int_int__gleeref2_rowsFor_1 u9 a0.Root a0.Kind a0.Turn).bind fun y44 => some y44
def m_gleeref2_BestVoices_l5 (e59 : (List Int)) (i70 : Nat) (x71 : Int) (u73 : Int) : Option (Flow Int (Flow (Int × Int × Int) (Flow ((List (List Int)) × (List (List Int))) (Flow (Int × (List (List Int)) × (List (List Int))) ((List (List Int)) × Int × Bool × Int))))) :=
  (getI e59 (i70 : Int)).bind fun e78 => (getI e59 (i70 : Int)).bind fun e79 => some (.nxt (w64 (u73 + (max (w64 (x71 - e78)) (w64 (e79 - x71))))))
def m_gleeref2_BestVoices_l4 (a0 : (List TChord)) (a2 : Int) (u5 : (List (List (List Int)))) (u41 : ((List (List Int)) × (List (List Int)))) (u31 : (Int × (List (List Int)) × (List (List Int)))) (x39 : (List Int)) (u50 : (Int × Int × Int)) : Option (Flow (Int × Int × Int) (Flow ((List (List Int)) × (List (List Int))) (Flow (Int × (List (List Int)) × (List (List Int))) ((List (List Int)) × Int × Bool × Int)))) :=
  (ifB (decide (u31.1 < (w64 ((a0.length : Int) - 1)))) ((getI u5 (w64 (u31.1 + 1))).bind fun e57 => some (.inl (decide (u50.2.2 < (e57.length : Int))))) (some (.inl false)) : Option (Bool ⊕ (Flow (Int × Int × Int) (Flow ((List (List Int)) × (List (List Int))) (Flow (Int × (List (List Int)) × (List (List Int))) ((List (List Int)) × Int × Bool × Int)))))).bind fun k56 => Sum.fin k56 fun u54 => ifB u54 ((getI u5 (w64 (u31.1 + 1))).bind fun e58 => (getI e58 u50.2.2).bind fun e59 => ((getI u41.1 (w64 (u31.1 + 1))).bind fun e63 => (getI e63 u50.2.2).bind fun e64 => ifB (decide (e64 < 0)) (some (.inl true)) ((m_gleeref2_FaultsOf [x39, e59] a2).bind fun y66 => some (.inl (decide ((y66.length : Int) > 0)))) : Option (Bool ⊕ (Flow (Int × Int × Int) (Flow ((List (List Int)) × (List (List Int))) (Flow (Int × (List (List Int)) × (List (List Int))) ((List (List Int)) × Int × Bool × Int)))))).bind fun k62 => Sum.fin k62 fun u60 => ifB u60 (some (.nxt (u50.1, u50.2.1, w64 (u50.2.2 + 1)))) ((getI u41.1 (w64 (u31.1 + 1))).bind fun e68 => (getI e68 u50.2.2).bind fun e69 => (rangeM (m_gleeref2_BestVoices_l5 e59) 0 x39 e69).bind fun f76 => Flow.fin f76 fun u73 => (ifB (decide (u50.1 < 0)) (some (.inl true)) (some (.inl (decide (u73 < u50.1)))) : Option (Bool ⊕ (Flow (Int × Int × Int) (Flow ((List (List Int)) × (List (List Int))) (Flow (Int × (List (List Int)) × (List (List Int))) ((List (List Int)) × Int × Bool × Int)))))).bind fun k82 => Sum.fin k82 fun u80 => ifB u80 (some (.nxt (u73, u50.2.2, w64 (u50.2.2 + 1)))) (some (.nxt (u50.1, u50.2.1, w64 (u50.2.2 + 1)))))) (some (.brk (u50.1, u50.2.1, u50.2.2)))
def m_gleeref2_BestVoices_l3 (a0 : (List TChord)) (a2 : Int) (u5 : (List (List (List Int)))) (u31 : (Int × (List (List Int)) × (List (List Int)))) (i38 : Nat) (x39 : (List Int)) (u41 : ((List (List Int)) × (List (List Int)))) : Option (Flow ((List (List Int)) × (List (List Int))) (Flow (Int × (List (List Int)) × (List (List Int))) ((List (List Int)) × Int × Bool × Int))) :=
  (ifB (u31.1 == (w64 ((a0.length : Int) - 1))) (some (.inl 0)) (some (.inl (-1))) : Option (Int ⊕ (Flow ((List (List Int)) × (List (List Int))) (Flow (Int × (List (List Int)) × (List (List Int))) ((List (List Int)) × Int × Bool × Int))))).bind fun k49 => Sum.fin k49 fun u47 => (loopM (m_gleeref2_BestVoices_l4 a0 a2 u5 u41 u31 x39) (u47, (-1), 0)).bind fun f53 => Flow.fin f53 fun u50 => (getI u41.1 u31.1).bind fun e84 => (appM 8 e84 [u50.1]).bind fun q88 => (getI u41.2 u31.1).bind fun e90 => (appM 8 e90 [u50.2.1]).bind fun q94 => (getI u41.1 u31.1).bind fun e96 => (getI u41.2 u31.1).bind fun e98 => some (.nxt ((u41.1.set u31.1.toNat q88), (u41.2.set u31.1.toNat q94)))
def m_gleeref2_BestVoices_l7 (a0 : (List TChord)) (u5 : (List (List (List Int)))) (u31 : (Int × (List (List Int)) × (List (List Int)))) (u228 : (Int × Int × (List (List Int)))) : Option (Flow (Int × Int × (List (List Int))) ((List (List Int)) × Int × Bool × Int)) :=
  ifB (decide (u228.1 ≤ (w64 ((a0.length : Int) - 1)))) ((getI u5 u228.1).bind fun e233 => (getI e233 u228.2.1).bind fun e234 => (appM 24 u228.2.2 [e234]).bind fun q236 => (getI u31.2.2 u228.1).bind fun e240 => (getI e240 u228.2.1).bind fun e241 => some (.nxt (w64 (u228.1 + 1), e241, q236))) (some (.brk (u228.1, u228.2.1, u228.2.2)))
def m_gleeref2_BestVoices_l6 (u31 : (Int × (List (List Int)) × (List (List Int)))) (i214 : Nat) (x215 : Int) (u217 : Int) : Option (Flow Int ((List (List Int)) × Int × Bool × Int)) :=
  (ifB (decide (x215 ≥ 0)) (ifB (decide (u217 < 0)) (some (.inl true)) ((getI u31.2.1 0).bind fun e224 => (getI e224 u217).bind fun e225 => some (.inl (decide (x215 < e225))))) (some (.inl false)) : Option (Bool ⊕ (Flow Int ((List (List Int)) × Int × Bool × Int)))).bind fun k223 => Sum.fin k223 fun u221 => ifB u221 (some (.nxt (i214 : Int))) (some (.nxt u217))
def m_gleeref2_BestVoices_l2 (a0 : (List TChord)) (a2 : Int) (u5 : (List (List (List Int)))) (u31 : (Int × (List (List Int)) × (List (List Int)))) : Option (Flow (Int × (List (List Int)) × (List (List Int))) ((List (List Int)) × Int × Bool × Int)) :=
  ifB (decide (u31.1 ≥ 0)) ((getI u5 u31.1).bind fun e37 => (rangeM (m_gleeref2_BestVoices_l3 a0 a2 u5 u31) 0 e37 (u31.2.1, u31.2.2)).bind fun f44 => Flow.fin f44 fun u41 => some (.nxt (w64 (u31.1 - 1), u41.1, u41.2))) (some (.brk (u31.1, u31.2.1, u31.2.2)))
def m_gleeref2_BestVoices_l1 (a1 : (List TRange)) (i1 : Nat) (x2 : TChord) (u5 : (List (List (List Int)))) : Option (Flow (List (List (List Int))) ((List (List Int)) × Int × Bool × Int)) :=
  (m_gleeref2_rowsFor x2 a1).bind fun y11 => (appM 24 u5 [y11]).bind fun q15 => (getI q15 (w64 ((q15.length : Int) - 1))).bind fun e18 => ifB (decide ((e18.length : Int) > 1000)) (some (.ret ([], 0, false, 12))) (some (.nxt q15))
def m_gleeref2_BestVoices (a0 : (List TChord)) (a1 : (List TRange)) (a2 : Int) : Option ((List (List Int)) × Int × Bool × Int) :=
  (rangeM (m_gleeref2_BestVoices_l1 a1) 0 a0 []).bind fun f8 => Flow.fin f8 fun u5 => (makeM 24 ([] : (List Int)) (a0.length : Int)).bind fun q24 => (makeM 24 ([] : (List Int)) (a0.length : Int)).bind fun q29 => (loopM (m_gleeref2_BestVoices_l2 a0 a2 u5) (w64 ((a0.length : Int) - 1), q24, q29)).bind fun f34 => Flow.fin f34 fun u31 => (getI u31.2.1 0).bind fun e213 => (rangeM (m_gleeref2_BestVoices_l6 u31) 0 e213 (-1)).bind fun f220 => Flow.fin f220 fun u217 => ifB (decide (u217 < 0)) (some ([], 0, false, 0)) ((loopM (m_gleeref2_BestVoices_l7 a0 u5 u31) (0, u217, [])).bind fun f231 => Flow.fin f231 fun u228 => (getI u31.2.1 0).bind fun e244 => (getI e244 u217).bind fun e245 => some (u228.2.2, e245, true, 0))
def m_slices_EqualFunc_int_int_int_int__slices_Equal_int_int_l1 (a1 : (List (List Int))) (i1 : Nat) (x2 : (List Int)) (u4 : Unit) : Option (Flow Unit Bool) :=
  (getI a1 (i1 : Int)).bind fun e8 => (m_slices_Equal_int_int x2 e8).bind fun y9 => ifB (!y9) (some (.ret false)) (some (.nxt ()))
def m_slices_EqualFunc_int_int_int_int__slices_Equal_int_int (a0 : (List (List Int))) (a1 : (List (List Int))) : Option Bool :=
  ifB ((a0.length : Int) != (a1.length : Int)) (some false) ((rangeM (m_slices_EqualFunc_int_int_int_int__slices_Equal_int_int_l1 a1) 0 a0 ()).bind fun f7 => Flow.fin f7 fun u4 => some true)
def m_chord_rootWords  : Option (List ByteArray) :=
  some [(ByteArray.mk [99].toArray), (ByteArray.mk [99, 35].toArray), (ByteArray.mk [100].toArray), (ByteArray.mk [100, 35].toArray), (ByteArray.mk [101].toArray), (ByteArray.mk [102].toArray), (ByteArray.mk [102, 35].toArray), (ByteArray.mk [103].toArray), (ByteArray.mk [103, 35].toArray), (ByteArray.mk [97].toArray), (ByteArray.mk [97, 35].toArray), (ByteArray.mk [98].toArray)]
def m_chord_kindWords  : Option (List ByteArray) :=
  some [ByteArray.empty, (ByteArray.mk [109, 97, 106].toArray), (ByteArray.mk [109, 105, 110].toArray), (ByteArray.mk [100, 105, 109].toArray), (ByteArray.mk [97, 117, 103].toArray), (ByteArray.mk [55].toArray), (ByteArray.mk [109, 97, 106, 55].toArray), (ByteArray.mk [109, 105, 110, 55].toArray)]
def m_chord_Name (a0 : TChord) : Option (ByteArray × Int) :=
  (m_chord_CheckChord a0).bind fun y2 => ifB (y2 != 0) (some (ByteArray.empty, y2)) ((m_chord_rootWords.bind fun y6 => (getI y6 a0.Root).bind fun e8 => (catM e8 (ByteArray.mk [32].toArray)).bind fun c9 => m_chord_kindWords.bind fun y10 => (getI y10 a0.Kind).bind fun e12 => (catM c9 e12).bind fun c13 => some (.inl c13) : Option (ByteArray ⊕ (ByteArray × Int))).bind fun k5 => Sum.fin k5 fun u3 => ifB (decide (a0.Turn > 0)) ((m_strconv_Itoa a0.Turn).bind fun y18 => (catM (ByteArray.mk [47].toArray) y18).bind fun c19 => (catM u3 c19).bind fun c20 => some (c20, 0)) (some (u3, 0)))
def m_gleelaw2_sounded  : Option Bool :=
  (m_chord_Name (TChord.mk 1 2 1)).bind fun y1 => ifB (y1.2 == 0) (some (y1.1.toList == (ByteArray.mk [99, 35, 32, 109, 105, 110, 47, 49].toArray).toList)) (some false)
def m_gleelaw2_VoicesBest_l1  (i13 : Nat) (x14 : TChord) (u16 : (List TChord)) : Option (Flow (List TChord) ((List TChord) ⊕ Bool)) :=
  (getI u16 (i13 : Int)).bind fun e21 => (getI u16 (i13 : Int)).bind fun e22 => some (.nxt (u16.set ((i13 : Int).toNat) (TChord.mk e22.Root e22.Kind (min e21.Turn 1))))
def m_gleelaw2_VoicesBest (a0 : (List Int)) : Option Bool :=
  (m_gleemake_Stream_Range a0 0 0 4).bind fun y2 => (m_gleemake_Stream_Chords a0 y2.2 y2.1).bind fun y3 => (m_gleemake_Stream_Ranges a0 y3.2).bind fun y5 => (m_gleemake_Stream_Leap a0 y5.2).bind fun y7 => (m_gleemake_Stream_Flip a0 y7.2 2).bind fun y8 => (ifB y8.1 ((rangeM m_gleelaw2_VoicesBest_l1 0 y3.1 y3.1).bind fun f19 => Flow.fin f19 fun u16 => some (.inl u16)) (some (.inl y3.1)) : Option ((List TChord) ⊕ Bool)).bind fun k12 => Sum.fin k12 fun u9 => (m_gleemake_Stream_Flip a0 y8.2 25).bind fun y24 => (ifB y24.1 ((sliceI u9 0 (min (u9.length : Int) 1)).bind fun q30 => (m_gleemake_Stream_WideRanges a0 y24.2).bind fun y31 => some (.inl (q30, y31.1))) (some (.inl (u9, y5.1))) : Option (((List TChord) × (List TRange)) ⊕ Bool)).bind fun k29 => Sum.fin k29 fun u25 => (m_chord_Best u25.1 u25.2 y7.1).bind fun y34 => (m_gleelaw2_when ((u25.1.length : Int) == 0) 8).bind fun y37 => (m_gleeref2_ChordsFault u25.1 12).bind fun y38 => (m_gleeref2_RangesFault u25.2).bind fun y39 => (m_gleelaw2_leapFault y7.1).bind fun y40 => (m_gleelaw2_errs [y37, y38, y39, y40]).bind fun y42 => (ifB (y42 == 0) ((m_gleeref2_BestVoices u25.1 u25.2 y7.1).bind fun y47 => some (.inl (y47.2.2.2, y47.2.1, y47.2.2.1, y47.1))) (some (.inl (y42, 0, false, []))) : Option ((Int × Int × Bool × (List (List Int))) ⊕ Bool)).bind fun k46 => Sum.fin k46 fun u43 => ifB (y34.2.2.2 == u43.1) ((m_slices_EqualFunc_int_int_int_int__slices_Equal_int_int y34.1 u43.2.2.2).bind fun y51 => ifB y51 (ifB (y34.2.1 == u43.2.1) (ifB (y34.2.2.1 == u43.2.2.1) (m_gleelaw2_sounded.bind fun y52 => some y52) (some false)) (some false)) (some false)) (some false)
end
end Go.G
