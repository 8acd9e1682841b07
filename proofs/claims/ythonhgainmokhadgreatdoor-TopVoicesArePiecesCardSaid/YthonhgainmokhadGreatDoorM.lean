/- The models. Written by program. -/
import Derived.Test.YthonhgainmokhadGreatDoorXM
namespace Go.G
open Go Go.J
set_option linter.unusedVariables false
noncomputable section
structure Tgleemake_Stream where
  L : (List Int)
  at_ : Int
  deriving DecidableEq, Inhabited
structure TChord where
  Root : Int
  Kind : Int
  Turn : Int
  deriving DecidableEq, Inhabited
structure TRange where
  Low : Int
  High : Int
  deriving DecidableEq, Inhabited
structure TBar where
  Beats : Int
  Unit : Int
  Close : Int
  Ending : Int
  Open : Bool
  deriving DecidableEq, Inhabited
structure TFraction where
  Num : Int
  Den : Int
  deriving DecidableEq, Inhabited
structure TTone where
  Note : Int
  Long : TFraction
  Text : ByteArray
  Tied : Bool
  deriving DecidableEq, Inhabited
structure Tchord_finder where
  c : TChord
  r : (List TRange)
  tones : (List Int)
  rows : (List (List Int))
  deriving DecidableEq, Inhabited
structure TCame where
  At : Int
  Singer : ByteArray
  Left : Bool
  deriving DecidableEq, Inhabited
structure TAct where
  Site : ByteArray
  No : Int
  At : Int
  Kind : Int
  Who : ByteArray
  Motion : ByteArray
  Cents : Int
  Yes : Bool
  Of : ByteArray
  Other : Int
  deriving DecidableEq, Inhabited
structure TWindow where
  From : Int
  To : Int
  deriving DecidableEq, Inhabited
structure TFault where
  At : Int
  Kind : Int
  Low : Int
  High : Int
  deriving DecidableEq, Inhabited
structure Tpiece_repeat where
  from_ : Int
  to_ : Int
  times : Int
  deriving DecidableEq, Inhabited
structure Tclub_stay where
  since : Int
  till : Int
  cents : Int
  deriving DecidableEq, Inhabited
structure Tclub_own where
  site : ByteArray
  no : Int
  deriving DecidableEq, Inhabited
structure Tclub_uses where
  who : Bool
  motion : Bool
  cents : Bool
  yes : Bool
  undo : Bool
  deriving DecidableEq, Inhabited
def m_gleemake_Below (a0 : Int) (a1 : Int) : Option Int :=
  ifB (decide (a1 < 1)) (some 0) ((remM a0 a1).bind fun z1 => ifB (decide (z1 < 0)) (some (w64 (z1 + a1))) (some z1))
def m_gleemake_Stream_Next (a0_0 : (List Int)) (a0_1 : Int) (a1 : Int) : Option (Int × Int) :=
  ifB ((a0_0.length : Int) == 0) ((m_gleemake_Below (w64 ((w64 (a0_1 + 1)) * 7919)) a1).bind fun y1 => some (y1, w64 (a0_1 + 1))) ((remM (w64 ((w64 (a0_1 + 1)) - 1)) (a0_0.length : Int)).bind fun z2 => (quoM (w64 ((w64 (a0_1 + 1)) - 1)) (a0_0.length : Int)).bind fun z3 => (getI a0_0 z2).bind fun e4 => (m_gleemake_Below e4 1073741824).bind fun y5 => (m_gleemake_Below (w64 (y5 + (w64 (z3 * (w64 (7919 + z2)))))) a1).bind fun y6 => some (y6, w64 (a0_1 + 1)))
def m_gleemake_Stream_Range (a0_0 : (List Int)) (a0_1 : Int) (a1 : Int) (a2 : Int) : Option (Int × Int) :=
  ifB (decide (a2 < a1)) (some (a1, a0_1)) ((m_gleemake_Stream_Next a0_0 a0_1 (w64 ((w64 (a2 - a1)) + 1))).bind fun y1 => some (w64 (a1 + y1.1), y1.2))
def m_gleemake_Stream_Flip (a0_0 : (List Int)) (a0_1 : Int) (a1 : Int) : Option (Bool × Int) :=
  (m_gleemake_Stream_Next a0_0 a0_1 a1).bind fun y1 => some (y1.1 == 0, y1.2)
def m_gleemake_Stream_Pick (a0_0 : (List Int)) (a0_1 : Int) (a1 : (List Int)) : Option (Int × Int) :=
  (m_gleemake_Stream_Next a0_0 a0_1 (a1.length : Int)).bind fun y1 => (getI a1 y1.1).bind fun e2 => some (e2, y1.2)
def m_gleemake_Stream_Odd (a0_0 : (List Int)) (a0_1 : Int) (a1 : Int) (a2 : Int) : Option (Int × Int) :=
  (m_gleemake_Stream_Flip a0_0 a0_1 12).bind fun y1 => ifB y1.1 ((m_gleemake_Stream_Pick a0_0 y1.2 [w64 (a1 - 1), w64 (a2 + 1), a1, a2, (-1099511627776), 1099511627776]).bind fun y3 => some (y3.1, y3.2)) ((m_gleemake_Stream_Range a0_0 y1.2 a1 a2).bind fun y4 => some (y4.1, y4.2))
def m_gleemake_Stream_AChord (a0_0 : (List Int)) (a0_1 : Int) : Option (TChord × Int) :=
  (m_gleemake_Stream_Flip a0_0 a0_1 40).bind fun y2 => ifB y2.1 ((m_gleemake_Stream_Odd a0_0 y2.2 0 11).bind fun y3 => (m_gleemake_Stream_Odd a0_0 y3.2 1 7).bind fun y4 => (m_gleemake_Stream_Odd a0_0 y4.2 0 3).bind fun y5 => some ((TChord.mk y3.1 y4.1 y5.1), y5.2)) ((m_gleemake_Stream_Range a0_0 y2.2 0 11).bind fun y6 => (m_gleemake_Stream_Range a0_0 y6.2 1 7).bind fun y7 => (m_gleemake_Stream_Pick a0_0 y7.2 [0, 0, 0, 1, 2]).bind fun y9 => some ((TChord.mk y6.1 y7.1 y9.1), y9.2))
def m_gleemake_Stream_Chords_l1 (a0_0 : (List Int)) (i1 : Nat) (x2 : Nat) (u5 : (Int × (List TChord))) : Option (Flow (Int × (List TChord)) ((List TChord) × Int)) :=
  (m_gleemake_Stream_AChord a0_0 u5.1).bind fun y10 => (m_gleemake_Stream_Flip a0_0 y10.2 2).bind fun y12 => (ifB y12.1 ((m_gleemake_Stream_Pick a0_0 y12.2 [0, 5, 7]).bind fun y17 => some (.inl (y17.2, y17.1, 1, 0))) (some (.inl (y12.2, y10.1.Root, y10.1.Kind, y10.1.Turn))) : Option ((Int × Int × Int × Int) ⊕ (Flow (Int × (List TChord)) ((List TChord) × Int)))).bind fun k15 => Sum.fin k15 fun u13 => (appM 24 u5.2 [(TChord.mk u13.2.1 u13.2.2.1 u13.2.2.2)]).bind fun q19 => some (.nxt (u13.1, q19))
def m_gleemake_Stream_Chords (a0_0 : (List Int)) (a0_1 : Int) (a1 : Int) : Option ((List TChord) × Int) :=
  (rangeI a1).bind fun L22 => (rangeM (m_gleemake_Stream_Chords_l1 a0_0) 0 L22 (a0_1, [])).bind fun f8 => Flow.fin f8 fun u5 => some (u5.2, u5.1)
def m_gleemake_Stream_Ranges_l1 (a0_0 : (List Int)) (i4 : Nat) (x5 : Int) (u8 : (Int × (List TRange))) : Option (Flow (Int × (List TRange)) ((List TRange) × Int)) :=
  (m_gleemake_Stream_Range a0_0 u8.1 (-2) 2).bind fun y13 => (m_gleemake_Stream_Pick a0_0 y13.2 [7, 9, 11, 12]).bind fun y15 => (appM 16 u8.2 [(TRange.mk (w64 (x5 + y13.1)) (w64 ((w64 (x5 + y13.1)) + y15.1)))]).bind fun q17 => some (.nxt (y15.2, q17))
def m_gleemake_Stream_Ranges (a0_0 : (List Int)) (a0_1 : Int) : Option ((List TRange) × Int) :=
  (m_gleemake_Stream_Range a0_0 a0_1 1 4).bind fun y2 => (sliceI [45, 52, 59, 64] 0 y2.1).bind fun q3 => (rangeM (m_gleemake_Stream_Ranges_l1 a0_0) 0 q3 (y2.2, [])).bind fun f11 => Flow.fin f11 fun u8 => (m_gleemake_Stream_Flip a0_0 u8.1 20).bind fun y20 => ifB y20.1 ((m_gleemake_Stream_Next a0_0 y20.2 (u8.2.length : Int)).bind fun y21 => (getI u8.2 y21.1).bind fun e22 => (m_gleemake_Stream_Odd a0_0 y21.2 0 60).bind fun y23 => (m_gleemake_Stream_Odd a0_0 y23.2 0 127).bind fun y24 => some (((u8.2.set y21.1.toNat (TRange.mk y23.1 e22.High)).set y21.1.toNat (TRange.mk y23.1 y24.1)), y24.2)) (some (u8.2, y20.2))
def m_kit_Outside (a0 : Int) (a1 : Int) (a2 : Int) : Option Bool :=
  ifB (decide (a0 < a1)) (some true) (some (decide (a0 > a2)))
def m_chord_isKind (a0 : Int) : Option Bool :=
  (m_kit_Outside a0 1 7).bind fun y1 => some (!y1)
def m_chord_above (a0 : Int) : Option (List Int) :=
  (getI [[], [0, 4, 7], [0, 3, 7], [0, 3, 6], [0, 4, 8], [0, 4, 7, 10], [0, 4, 7, 11], [0, 3, 7, 10]] a0).bind fun e12 => some e12
def m_chord_CheckChord (a0 : TChord) : Option Int :=
  (m_kit_Outside a0.Root 0 11).bind fun y2 => ifB y2 (some 1) ((m_chord_isKind a0.Kind).bind fun y3 => ifB (!y3) (some 4) ((m_chord_above a0.Kind).bind fun y4 => (m_kit_Outside a0.Turn 0 (w64 ((y4.length : Int) - 1))).bind fun y6 => ifB y6 (some 1) (some 0)))
def m_chord_checkAll_l1  (i1 : Nat) (x2 : TChord) (u4 : Unit) : Option (Flow Unit Int) :=
  (m_chord_CheckChord x2).bind fun y9 => ifB (y9 != 0) (some (.ret y9)) (some (.nxt ()))
def m_chord_checkAll (a0 : (List TChord)) : Option Int :=
  (rangeM m_chord_checkAll_l1 0 a0 ()).bind fun f7 => Flow.fin f7 fun u4 => some 0
def m_chord_rangesFault_1 (a0 : TRange) : Option Bool :=
  some (decide ((w64 ((w64 (a0.High - a0.Low)) + 1)) > 25))
def m_slices_IndexFunc_api_Range_api_Range__chord_rangesFault_1_l1  (i1 : Nat) (x2 : TRange) (u4 : Unit) : Option (Flow Unit Int) :=
  (m_chord_rangesFault_1 x2).bind fun y8 => ifB y8 (some (.ret (i1 : Int))) (some (.nxt ()))
def m_slices_IndexFunc_api_Range_api_Range__chord_rangesFault_1 (a0 : (List TRange)) : Option Int :=
  (rangeM m_slices_IndexFunc_api_Range_api_Range__chord_rangesFault_1_l1 0 a0 ()).bind fun f7 => Flow.fin f7 fun u4 => some (-1)
def m_slices_ContainsFunc_api_Range_api_Range__chord_rangesFault_1 (a0 : (List TRange)) : Option Bool :=
  (m_slices_IndexFunc_api_Range_api_Range__chord_rangesFault_1 a0).bind fun y1 => some (decide (y1 ≥ 0))
def m_chord_rangesFault_l1  (i1 : Nat) (x2 : TRange) (u4 : Unit) : Option (Flow Unit Int) :=
  ((m_kit_Outside x2.Low 0 x2.High).bind fun y12 => ifB y12 (some (.inl true)) (some (.inl (decide (x2.High > 127)))) : Option (Bool ⊕ (Flow Unit Int))).bind fun k11 => Sum.fin k11 fun u9 => ifB u9 (some (.ret 1)) (some (.nxt ()))
def m_chord_rangesFault (a0 : (List TRange)) : Option Int :=
  ifB ((a0.length : Int) == 0) (some 8) (ifB (decide ((a0.length : Int) > 5)) (some 2) ((rangeM m_chord_rangesFault_l1 0 a0 ()).bind fun f7 => Flow.fin f7 fun u4 => (m_slices_ContainsFunc_api_Range_api_Range__chord_rangesFault_1 a0).bind fun y13 => ifB y13 (some 2) (some 0)))
def m_chord_bestFault (a0 : (List TChord)) (a1 : (List TRange)) (a2 : Int) : Option Int :=
  ifB ((a0.length : Int) == 0) (some 8) (ifB (decide ((a0.length : Int) > 12)) (some 2) ((m_chord_checkAll a0).bind fun y1 => ifB (y1 != 0) (some y1) ((m_chord_rangesFault a1).bind fun y2 => ifB (y2 != 0) (some y2) ((m_kit_Outside a2 0 24).bind fun y3 => ifB y3 (some 1) (some 0)))))
def m_chord_tones_l1 (a0 : TChord) (y2 : (List Int)) (i4 : Nat) (x5 : Int) (u8 : (List Int)) : Option (Flow (List Int) (List Int)) :=
  (remM (w64 ((i4 : Int) + a0.Turn)) (y2.length : Int)).bind fun z13 => (getI y2 z13).bind fun e14 => (appM 8 u8 [(w64 (a0.Root + e14)).tmod 12]).bind fun q16 => some (.nxt q16)
def m_chord_tones (a0 : TChord) : Option (List Int) :=
  (m_chord_above a0.Kind).bind fun y2 => (rangeM (m_chord_tones_l1 a0 y2) 0 y2 []).bind fun f11 => Flow.fin f11 fun u8 => some u8
def m_chord_set_l1  (i1 : Nat) (x2 : Int) (u5 : (List Int)) : Option (Flow (List Int) (List Int)) :=
  (appM 8 u5 [x2.tmod 12]).bind fun q11 => some (.nxt q11)
def m_chord_set (a0 : (List Int)) : Option (List Int) :=
  (rangeM m_chord_set_l1 0 a0 []).bind fun f8 => Flow.fin f8 fun u5 => (m_slices_Sort_int_int u5).bind fun y14 => (m_slices_Compact_int_int y14).bind fun y15 => some y15
def m_slices_Equal_int_int_l1 (a1 : (List Int)) (i1 : Nat) (x2 : Int) (u4 : Unit) : Option (Flow Unit Bool) :=
  (getI a1 (i1 : Int)).bind fun e8 => ifB (x2 != e8) (some (.ret false)) (some (.nxt ()))
def m_slices_Equal_int_int (a0 : (List Int)) (a1 : (List Int)) : Option Bool :=
  ifB ((a0.length : Int) != (a1.length : Int)) (some false) ((rangeM (m_slices_Equal_int_int_l1 a1) 0 a0 ()).bind fun f7 => Flow.fin f7 fun u4 => some true)
def m_chord_fits (a0 : TChord) (a1 : (List Int)) : Option Bool :=
  (m_chord_tones a0).bind fun y2 => ((getI a1 0).bind fun e7 => (getI y2 0).bind fun e8 => ifB ((e7.tmod 12) == e8) ((m_chord_set a1).bind fun y9 => (m_chord_set y2).bind fun y11 => (m_slices_Equal_int_int y9 y11).bind fun y13 => some (.inl y13)) (some (.inl false)) : Option (Bool ⊕ Bool)).bind fun k6 => Sum.fin k6 fun u4 => some u4
def m_slices_Clone_int_int (a0 : (List Int)) : Option (List Int) :=
  (appM 8 ([] : List Int) a0).bind fun q3 => some q3
def m_slices_Index_int_int_l1 (a1 : Int) (i1 : Nat) (x2 : Int) (u4 : Unit) : Option (Flow Unit Int) :=
  ifB (a1 == x2) (some (.ret (i1 : Int))) (some (.nxt ()))
def m_slices_Index_int_int (a0 : (List Int)) (a1 : Int) : Option Int :=
  (rangeM (m_slices_Index_int_int_l1 a1) 0 a0 ()).bind fun f7 => Flow.fin f7 fun u4 => some (-1)
def m_slices_Contains_int_int (a0 : (List Int)) (a1 : Int) : Option Bool :=
  (m_slices_Index_int_int a0 a1).bind fun y1 => some (decide (y1 ≥ 0))
def m_chord_finder_find_l1 (a0_0 : Int) (a0_1 : Int) (a0_2 : Int) (a0_3 : (List TRange)) (a0_4 : (List Int)) (a1 : (List Int)) (self_ : (Int → Int → Int → (List TRange) → (List Int) → (List (List Int)) → (List Int) → Option (List (List Int)))) (u17 : (Int × (List (List Int)))) : Option (Flow (Int × (List (List Int))) (List (List Int))) :=
  (getI a0_3 (a1.length : Int)).bind fun e21 => ifB (decide (u17.1 ≤ e21.High)) (((m_slices_Contains_int_int a0_4 (u17.1.tmod 12)).bind fun y25 => ifB (!y25) (some (.inl true)) (ifB ((a1.length : Int) == 0) ((getI a0_4 0).bind fun e26 => some (.inl ((u17.1.tmod 12) != e26))) (some (.inl false))) : Option (Bool ⊕ (Flow (Int × (List (List Int))) (List (List Int))))).bind fun k24 => Sum.fin k24 fun u22 => ifB u22 (some (.nxt (w64 (u17.1 + 1), u17.2))) ((ifB (decide ((a1.length : Int) > 0)) ((getI a1 (w64 ((a1.length : Int) - 1))).bind fun e30 => ifB (decide (u17.1 < e30)) (some (.inl true)) (ifB (decide ((a1.length : Int) > 1)) ((getI a1 (w64 ((a1.length : Int) - 1))).bind fun e31 => some (.inl (decide ((w64 (u17.1 - e31)) > 12)))) (some (.inl false)))) (some (.inl false)) : Option (Bool ⊕ (Flow (Int × (List (List Int))) (List (List Int))))).bind fun k29 => Sum.fin k29 fun u27 => ifB u27 (some (.nxt (w64 (u17.1 + 1), u17.2))) ((appM 8 a1 [u17.1]).bind fun q33 => (self_ a0_0 a0_1 a0_2 a0_3 a0_4 u17.2 q33).bind fun y36 => some (.nxt (w64 (u17.1 + 1), y36))))) (some (.brk (u17.1, u17.2)))
def m_chord_finder_find_b (self_ : (Int → Int → Int → (List TRange) → (List Int) → (List (List Int)) → (List Int) → Option (List (List Int)))) (a0_0 : Int) (a0_1 : Int) (a0_2 : Int) (a0_3 : (List TRange)) (a0_4 : (List Int)) (a0_5 : (List (List Int))) (a1 : (List Int)) : Option (List (List Int)) :=
  ifB (decide ((a0_5.length : Int) > 1000)) (some a0_5) (ifB ((a1.length : Int) == (a0_3.length : Int)) ((m_chord_fits (TChord.mk a0_0 a0_1 a0_2) a1).bind fun y1 => (ifB y1 ((m_slices_Clone_int_int a1).bind fun y5 => (appM 24 a0_5 [y5]).bind fun q8 => some (.inl q8)) (some (.inl a0_5)) : Option ((List (List Int)) ⊕ (List (List Int)))).bind fun k4 => Sum.fin k4 fun u2 => some u2) ((getI a0_3 (a1.length : Int)).bind fun e16 => (loopM (m_chord_finder_find_l1 a0_0 a0_1 a0_2 a0_3 a0_4 a1 self_) (e16.Low, a0_5)).bind fun f20 => Flow.fin f20 fun u17 => some u17.2))
def m_chord_finder_find : Nat → Int → Int → Int → (List TRange) → (List Int) → (List (List Int)) → (List Int) → Option (List (List Int))
  | 0 => fun _ _ _ _ _ _ _ => none
  | fu_ + 1 => m_chord_finder_find_b (m_chord_finder_find fu_)
def m_chord_size (a0 : Int) : Option Int :=
  some (max a0 (w64 (0 - a0)))
def m_chord_apart_1 (a0 : Int) : Option Int :=
  some ((w64 ((a0.tmod 12) + 12)).tmod 12)
def m_chord_apart (a0 : (List Int)) (a1 : (List Int)) (a2 : Int) (a3 : Int) (a4 : Int) : Option Bool :=
  (getI a1 a2).bind fun e1 => (getI a0 a2).bind fun e2 => (getI a1 a3).bind fun e3 => (getI a0 a3).bind fun e4 => (ifB (decide ((w64 (e1 - e2)) > 0)) (ifB (decide ((w64 (e3 - e4)) > 0)) (some (.inl true)) (ifB (decide ((w64 (e1 - e2)) < 0)) (some (.inl (decide ((w64 (e3 - e4)) < 0)))) (some (.inl false)))) (ifB (decide ((w64 (e1 - e2)) < 0)) (some (.inl (decide ((w64 (e3 - e4)) < 0)))) (some (.inl false))) : Option (Bool ⊕ Bool)).bind fun k7 => Sum.fin k7 fun u5 => ifB u5 ((getI a0 a3).bind fun e8 => (getI a0 a2).bind fun e9 => (m_chord_apart_1 (w64 (e8 - e9))).bind fun y10 => ifB (y10 == a4) ((getI a1 a3).bind fun e11 => (getI a1 a2).bind fun e12 => (m_chord_apart_1 (w64 (e11 - e12))).bind fun y13 => some (y13 == a4)) (some false)) (some false)
def m_chord_moved_l3 (a0 : Int) (a1 : (List Int)) (a2 : (List Int)) (x3 : Int) (u11 : Int) (i14 : Nat) (u22 : (Int × (List TFault))) : Option (Flow (Int × (List TFault)) (Flow (List TFault) (Flow (List TFault) (List TFault)))) :=
  ifB (decide (u22.1 < (a2.length : Int))) ((m_chord_apart a1 a2 (i14 : Int) u22.1 u11).bind fun y27 => ifB y27 ((appM 32 u22.2 [(TFault.mk a0 x3 (i14 : Int) u22.1)]).bind fun q29 => some (.nxt (w64 (u22.1 + 1), q29))) (some (.nxt (w64 (u22.1 + 1), u22.2)))) (some (.brk (u22.1, u22.2)))
def m_chord_moved_l2 (a0 : Int) (a1 : (List Int)) (a2 : (List Int)) (x3 : Int) (u11 : Int) (i14 : Nat) (x15 : Int) (u17 : (List TFault)) : Option (Flow (List TFault) (Flow (List TFault) (List TFault))) :=
  (loopM (m_chord_moved_l3 a0 a1 a2 x3 u11 i14) (w64 ((i14 : Int) + 1), u17)).bind fun f25 => Flow.fin f25 fun u22 => some (.nxt u22.2)
def m_chord_moved_l4 (a0 : Int) (a1 : (List Int)) (a3 : Int) (i34 : Nat) (x35 : Int) (u37 : (List TFault)) : Option (Flow (List TFault) (List TFault)) :=
  (getI a1 (i34 : Int)).bind fun e42 => (m_chord_size (w64 (x35 - e42))).bind fun y43 => ifB (decide (y43 > a3)) ((appM 32 u37 [(TFault.mk a0 5 (i34 : Int) (i34 : Int))]).bind fun q45 => some (.nxt q45)) (some (.nxt u37))
def m_chord_moved_l1 (a0 : Int) (a1 : (List Int)) (a2 : (List Int)) (i2 : Nat) (x3 : Int) (u6 : (List TFault)) : Option (Flow (List TFault) (List TFault)) :=
  (ifB (x3 == 4) (some (.inl 0)) (some (.inl 7)) : Option (Int ⊕ (Flow (List TFault) (List TFault)))).bind fun k13 => Sum.fin k13 fun u11 => (rangeM (m_chord_moved_l2 a0 a1 a2 x3 u11) 0 a2 u6).bind fun f20 => Flow.fin f20 fun u17 => some (.nxt u17)
def m_chord_moved (a0 : Int) (a1 : (List Int)) (a2 : (List Int)) (a3 : Int) : Option (List TFault) :=
  (rangeM (m_chord_moved_l1 a0 a1 a2) 0 [3, 4] []).bind fun f9 => Flow.fin f9 fun u6 => (rangeM (m_chord_moved_l4 a0 a1 a3) 0 a2 u6).bind fun f40 => Flow.fin f40 fun u37 => some u37
def m_chord_moves_l1 (a0 : (List Int)) (i1 : Nat) (x2 : Int) (u4 : Int) : Option (Flow Int Int) :=
  (getI a0 (i1 : Int)).bind fun e8 => (m_chord_size (w64 (x2 - e8))).bind fun y9 => some (.nxt (w64 (u4 + y9)))
def m_chord_moves (a0 : (List Int)) (a1 : (List Int)) : Option Int :=
  (rangeM (m_chord_moves_l1 a0) 0 a1 0).bind fun f7 => Flow.fin f7 fun u4 => some u4
def m_chord_by_l1 (a0 : (List Int)) (a2 : Int) (i1 : Nat) (x2 : Int) (u4 : Unit) : Option (Flow Unit Int) :=
  (getI a0 (i1 : Int)).bind fun e8 => (m_chord_size (w64 (x2 - e8))).bind fun y9 => ifB (decide (y9 > a2)) (some (.ret (-1))) (some (.nxt ()))
def m_chord_by (a0 : (List Int)) (a1 : (List Int)) (a2 : Int) (a3 : Int) : Option Int :=
  ifB (a3 == (-1)) (some (-1)) ((rangeM (m_chord_by_l1 a0 a2) 0 a1 ()).bind fun f7 => Flow.fin f7 fun u4 => (m_chord_moved 0 a0 a1 a2).bind fun y10 => ifB (decide ((y10.length : Int) > 0)) (some (-1)) ((m_chord_moves a0 a1).bind fun y12 => some (w64 (y12 + a3))))
def m_chord_rests_l3 (a1 : Int) (x21 : (List Int)) (u23 : (List (List Int))) (u14 : (Int × (List (List Int)))) (i29 : Nat) (x30 : (List Int)) (u32 : Int) : Option (Flow Int (Flow (List (List Int)) (Flow (Int × (List (List Int))) (List (List Int))))) :=
  (getI u23 (w64 (u14.1 + 1))).bind fun e36 => (getI e36 (i29 : Int)).bind fun e37 => (m_chord_by x21 x30 a1 e37).bind fun y38 => (ifB (y38 != (-1)) (ifB (u32 == (-1)) (some (.inl true)) (some (.inl (decide (y38 < u32))))) (some (.inl false)) : Option (Bool ⊕ (Flow Int (Flow (List (List Int)) (Flow (Int × (List (List Int))) (List (List Int))))))).bind fun k41 => Sum.fin k41 fun u39 => ifB u39 (some (.nxt y38)) (some (.nxt u32))
def m_chord_rests_l2 (a0 : (List (List (List Int)))) (a1 : Int) (u14 : (Int × (List (List Int)))) (i20 : Nat) (x21 : (List Int)) (u23 : (List (List Int))) : Option (Flow (List (List Int)) (Flow (Int × (List (List Int))) (List (List Int)))) :=
  (getI a0 (w64 (u14.1 + 1))).bind fun e28 => (rangeM (m_chord_rests_l3 a1 x21 u23 u14) 0 e28 (-1)).bind fun f35 => Flow.fin f35 fun u32 => (getI u23 u14.1).bind fun e42 => (appM 8 e42 [u32]).bind fun q46 => (getI u23 u14.1).bind fun e48 => some (.nxt (u23.set u14.1.toNat q46))
def m_chord_rests_l1 (a0 : (List (List (List Int)))) (a1 : Int) (u14 : (Int × (List (List Int)))) : Option (Flow (Int × (List (List Int))) (List (List Int))) :=
  ifB (decide (u14.1 ≥ 0)) ((getI a0 u14.1).bind fun e19 => (rangeM (m_chord_rests_l2 a0 a1 u14) 0 e19 u14.2).bind fun f26 => Flow.fin f26 fun u23 => some (.nxt (w64 (u14.1 - 1), u23))) (some (.brk (u14.1, u14.2)))
def m_chord_rests (a0 : (List (List (List Int)))) (a1 : Int) : Option (List (List Int)) :=
  (makeM 24 ([] : (List Int)) (a0.length : Int)).bind fun q4 => (getI a0 (w64 ((a0.length : Int) - 1))).bind fun e6 => (makeM 8 (0 : Int) (e6.length : Int)).bind fun q7 => (getI q4 (w64 ((a0.length : Int) - 1))).bind fun e9 => (loopM (m_chord_rests_l1 a0 a1) (w64 ((w64 ((a0.length : Int) - 1)) - 1), (q4.set ((w64 ((a0.length : Int) - 1)).toNat) q7))).bind fun f17 => Flow.fin f17 fun u14 => some u14.2
def m_chord_Best_l4 (a2 : Int) (u7 : (List (List (List Int)))) (y41 : (List (List Int))) (e68 : (List Int)) (u63 : (Int × Int × (List (List Int)))) (u69 : Int) : Option (Flow Int (Flow (Int × Int × (List (List Int))) ((List (List Int)) × Int × Bool × Int))) :=
  (getI u7 u63.1).bind fun e74 => (getI e74 u69).bind fun e75 => (getI y41 u63.1).bind fun e76 => (getI e76 u69).bind fun e77 => (m_chord_by e68 e75 a2 e77).bind fun y78 => ifB (y78 != u63.2.1) (some (.nxt (w64 (u69 + 1)))) (some (.brk u69))
def m_chord_Best_l3 (a0 : (List TChord)) (a2 : Int) (u7 : (List (List (List Int)))) (y41 : (List (List Int))) (u63 : (Int × Int × (List (List Int)))) : Option (Flow (Int × Int × (List (List Int))) ((List (List Int)) × Int × Bool × Int)) :=
  ifB (decide (u63.1 < (a0.length : Int))) ((getI u63.2.2 (w64 ((u63.2.2.length : Int) - 1))).bind fun e68 => (loopM (m_chord_Best_l4 a2 u7 y41 e68 u63) 0).bind fun f72 => Flow.fin f72 fun u69 => (getI u7 u63.1).bind fun e79 => (getI e79 u69).bind fun e80 => (appM 24 u63.2.2 [e80]).bind fun q82 => (getI y41 u63.1).bind fun e85 => (getI e85 u69).bind fun e86 => some (.nxt (w64 (u63.1 + 1), e86, q82))) (some (.brk (u63.1, u63.2.1, u63.2.2)))
def m_chord_Best_l2 (y41 : (List (List Int))) (i45 : Nat) (x46 : Int) (u48 : Int) : Option (Flow Int ((List (List Int)) × Int × Bool × Int)) :=
  (ifB (x46 != (-1)) (ifB (u48 == (-1)) (some (.inl true)) ((getI y41 0).bind fun e55 => (getI e55 u48).bind fun e56 => some (.inl (decide (x46 < e56))))) (some (.inl false)) : Option (Bool ⊕ (Flow Int ((List (List Int)) × Int × Bool × Int)))).bind fun k54 => Sum.fin k54 fun u52 => ifB u52 (some (.nxt (i45 : Int))) (some (.nxt u48))
def m_chord_Best_l1 (a1 : (List TRange)) (i3 : Nat) (x4 : TChord) (u7 : (List (List (List Int)))) : Option (Flow (List (List (List Int))) ((List (List Int)) × Int × Bool × Int)) :=
  (m_chord_tones x4).bind fun y13 => (makeM 8 (0 : Int) (a1.length : Int)).bind fun q16 => (m_chord_finder_find FUEL x4.Root x4.Kind x4.Turn a1 y13 [] []).bind fun y19 => ifB (decide ((y19.length : Int) > 1000)) (some (.ret ([], 0, false, 12))) ((appM 24 u7 [y19]).bind fun q24 => some (.nxt q24))
def m_chord_Best (a0 : (List TChord)) (a1 : (List TRange)) (a2 : Int) : Option ((List (List Int)) × Int × Bool × Int) :=
  (m_chord_bestFault a0 a1 a2).bind fun y1 => ifB (y1 != 0) (some ([], 0, false, y1)) ((rangeM (m_chord_Best_l1 a1) 0 a0 []).bind fun f10 => Flow.fin f10 fun u7 => (m_chord_rests u7 a2).bind fun y41 => (getI y41 0).bind fun e44 => (rangeM (m_chord_Best_l2 y41) 0 e44 (-1)).bind fun f51 => Flow.fin f51 fun u48 => ifB (u48 == (-1)) (some ([], 0, false, 0)) ((getI u7 0).bind fun e58 => (getI e58 u48).bind fun e59 => (getI y41 0).bind fun e61 => (getI e61 u48).bind fun e62 => (loopM (m_chord_Best_l3 a0 a2 u7 y41) (1, e62, [e59])).bind fun f66 => Flow.fin f66 fun u63 => some (u63.2.2, e62, true, 0)))
def m_gleeref2_in (a0 : Int) (a1 : Int) (a2 : Int) : Option Bool :=
  ifB (decide (a1 ≤ a0)) (some (decide (a0 ≤ a2))) (some false)
def m_gleeref2_kindTones (a0 : Int) : Option (List Int) :=
  (getI [[], [0, 4, 7], [0, 3, 7], [0, 3, 6], [0, 4, 8], [0, 4, 7, 10], [0, 4, 7, 11], [0, 3, 7, 10]] a0).bind fun e12 => some e12
def m_gleeref2_ChordFault (a0 : TChord) : Option Int :=
  (m_gleeref2_in a0.Root 0 11).bind fun y2 => ifB (!y2) (some 1) ((m_gleeref2_in a0.Kind 1 7).bind fun y3 => ifB (!y3) (some 4) ((m_gleeref2_kindTones a0.Kind).bind fun y4 => (m_gleeref2_in a0.Turn 0 (w64 ((y4.length : Int) - 1))).bind fun y6 => ifB (!y6) (some 1) (some 0)))
def m_gleeref2_ChordsFault_l1  (i1 : Nat) (x2 : TChord) (u4 : Unit) : Option (Flow Unit Int) :=
  (m_gleeref2_ChordFault x2).bind fun y9 => ifB (y9 != 0) (some (.ret y9)) (some (.nxt ()))
def m_gleeref2_ChordsFault (a0 : (List TChord)) (a1 : Int) : Option Int :=
  ifB (decide ((a0.length : Int) > a1)) (some 2) ((rangeM m_gleeref2_ChordsFault_l1 0 a0 ()).bind fun f7 => Flow.fin f7 fun u4 => some 0)
def m_piece_isUnit (a0 : Int) : Option Bool :=
  (m_slices_Contains_int_int [1, 2, 4, 8, 16] a0).bind fun y2 => some y2
def m_piece_barFault (a0 : TBar) : Option Int :=
  ((m_kit_Outside a0.Beats 1 16).bind fun y5 => ifB y5 (some (.inl true)) ((m_piece_isUnit a0.Unit).bind fun y6 => ifB (!y6) (some (.inl true)) (ifB (a0.Close != 0) ((m_kit_Outside a0.Close 2 9).bind fun y7 => ifB y7 (some (.inl true)) ((m_kit_Outside a0.Ending 0 9).bind fun y8 => some (.inl y8))) ((m_kit_Outside a0.Ending 0 9).bind fun y9 => some (.inl y9)))) : Option (Bool ⊕ Int)).bind fun k4 => Sum.fin k4 fun u2 => ifB u2 (some 1) (some 0)
def m_piece_rulesFault_l1 (a0 : (List TBar)) (i1 : Nat) (x2 : TBar) (u4 : Bool) : Option (Flow Bool Int) :=
  (m_piece_barFault x2).bind fun y9 => ifB (y9 != 0) (some (.ret y9)) ((ifB x2.Open (some (.inl u4)) (some (.inl false)) : Option (Bool ⊕ (Flow Bool Int))).bind fun k12 => Sum.fin k12 fun u10 => ifB u10 (some (.ret 16)) ((ifB (!x2.Open) (ifB (!u4) (ifB (x2.Close != 0) (some (.inl true)) (some (.inl (x2.Ending != 0)))) (some (.inl false))) (some (.inl false)) : Option (Bool ⊕ (Flow Bool Int))).bind fun k15 => Sum.fin k15 fun u13 => ifB u13 (some (.ret 16)) (ifB u4 ((getI a0 (w64 ((i1 : Int) - 1))).bind fun e16 => ifB (decide (x2.Ending < e16.Ending)) (some (.ret 16)) (ifB u4 (some (.nxt (x2.Close == 0))) (ifB x2.Open (some (.nxt (x2.Close == 0))) (some (.nxt false))))) (ifB u4 (some (.nxt (x2.Close == 0))) (ifB x2.Open (some (.nxt (x2.Close == 0))) (some (.nxt false)))))))
def m_piece_rulesFault (a0 : (List TBar)) : Option Int :=
  (rangeM (m_piece_rulesFault_l1 a0) 0 a0 false).bind fun f7 => Flow.fin f7 fun u4 => some 0
def m_piece_repeats_l3 (x22 : Tpiece_repeat) (i30 : Nat) (x31 : TBar) (u33 : Unit) : Option (Flow Unit (Flow Unit ((List Tpiece_repeat) × Bool))) :=
  (ifB (decide (x22.times > 1)) (some (.inl (decide (x31.Ending > x22.times)))) (some (.inl false)) : Option (Bool ⊕ (Flow Unit (Flow Unit ((List Tpiece_repeat) × Bool))))).bind fun k40 => Sum.fin k40 fun u38 => ifB u38 (some (.ret (.ret ([], false)))) (some (.nxt ()))
def m_piece_repeats_l2 (a0 : (List TBar)) (i21 : Nat) (x22 : Tpiece_repeat) (u24 : Unit) : Option (Flow Unit ((List Tpiece_repeat) × Bool)) :=
  (sliceI a0 x22.from_ x22.to_).bind fun q29 => (rangeM (m_piece_repeats_l3 x22) 0 q29 ()).bind fun f36 => Flow.fin f36 fun u33 => some (.nxt ())
def m_piece_repeats_l1  (i1 : Nat) (x2 : TBar) (u5 : (Int × (List Tpiece_repeat))) : Option (Flow (Int × (List Tpiece_repeat)) ((List Tpiece_repeat) × Bool)) :=
  (ifB x2.Open (some (.inl (i1 : Int))) (some (.inl u5.1)) : Option (Int ⊕ (Flow (Int × (List Tpiece_repeat)) ((List Tpiece_repeat) × Bool)))).bind fun k13 => Sum.fin k13 fun u11 => ifB (decide (u11 < 0)) ((appM 24 u5.2 [(Tpiece_repeat.mk (i1 : Int) (w64 ((i1 : Int) + 1)) 1)]).bind fun q15 => some (.nxt (u11, q15))) (ifB (decide (x2.Close > 0)) ((appM 24 u5.2 [(Tpiece_repeat.mk u11 (w64 ((i1 : Int) + 1)) x2.Close)]).bind fun q18 => some (.nxt ((-1), q18))) (some (.nxt (u11, u5.2))))
def m_piece_repeats (a0 : (List TBar)) : Option ((List Tpiece_repeat) × Bool) :=
  (rangeM m_piece_repeats_l1 0 a0 ((-1), [])).bind fun f8 => Flow.fin f8 fun u5 => (rangeM (m_piece_repeats_l2 a0) 0 u5.2 ()).bind fun f27 => Flow.fin f27 fun u24 => some (u5.2, decide (u5.1 < 0))
def m_piece_order_l3 (a0 : (List TBar)) (a2 : Int) (x2 : Tpiece_repeat) (u11 : (Int × (List Int))) (u16 : (Int × (List Int))) : Option (Flow (Int × (List Int)) (Flow (Int × (List Int)) (Flow (List Int) (List Int)))) :=
  (ifB (decide (u16.1 < x2.to_)) (some (.inl (decide ((u16.2.length : Int) ≤ a2)))) (some (.inl false)) : Option (Bool ⊕ (Flow (Int × (List Int)) (Flow (Int × (List Int)) (Flow (List Int) (List Int)))))).bind fun k23 => Sum.fin k23 fun u21 => ifB u21 (((getI a0 u16.1).bind fun e27 => ifB (e27.Ending == 0) (some (.inl true)) ((getI a0 u16.1).bind fun e28 => some (.inl (e28.Ending == u11.1))) : Option (Bool ⊕ (Flow (Int × (List Int)) (Flow (Int × (List Int)) (Flow (List Int) (List Int)))))).bind fun k26 => Sum.fin k26 fun u24 => ifB u24 ((appM 8 u16.2 [u16.1]).bind fun q30 => some (.nxt (w64 (u16.1 + 1), q30))) (some (.nxt (w64 (u16.1 + 1), u16.2)))) (some (.brk (u16.1, u16.2)))
def m_piece_order_l2 (a0 : (List TBar)) (a2 : Int) (x2 : Tpiece_repeat) (u11 : (Int × (List Int))) : Option (Flow (Int × (List Int)) (Flow (List Int) (List Int))) :=
  ifB (decide (u11.1 ≤ x2.times)) ((loopM (m_piece_order_l3 a0 a2 x2 u11) (x2.from_, u11.2)).bind fun f19 => Flow.fin f19 fun u16 => some (.nxt (w64 (u11.1 + 1), u16.2))) (some (.brk (u11.1, u11.2)))
def m_piece_order_l1 (a0 : (List TBar)) (a2 : Int) (i1 : Nat) (x2 : Tpiece_repeat) (u5 : (List Int)) : Option (Flow (List Int) (List Int)) :=
  (loopM (m_piece_order_l2 a0 a2 x2) (1, u5)).bind fun f14 => Flow.fin f14 fun u11 => some (.nxt u11.2)
def m_piece_order (a0 : (List TBar)) (a1 : (List Tpiece_repeat)) (a2 : Int) : Option (List Int) :=
  (rangeM (m_piece_order_l1 a0 a2) 0 a1 []).bind fun f8 => Flow.fin f8 fun u5 => some u5
def m_piece_CheckBars (a0 : (List TBar)) : Option Int :=
  ifB ((a0.length : Int) == 0) (some 8) (ifB (decide ((a0.length : Int) > 300)) (some 2) ((m_piece_rulesFault a0).bind fun y1 => ifB (y1 != 0) (some y1) ((m_piece_repeats a0).bind fun y2 => ifB (!y2.2) (some 16) ((m_piece_order a0 y2.1 2000).bind fun y4 => ifB (decide ((y4.length : Int) > 2000)) (some 2) (some 0)))))
def m_piece_played (a0 : (List TBar)) : Option (List Int) :=
  (m_piece_repeats a0).bind fun y1 => (m_piece_order a0 y1.1 2000).bind fun y3 => some y3
def m_piece_Order (a0 : (List TBar)) : Option ((List Int) × Int) :=
  (m_piece_CheckBars a0).bind fun y1 => ifB (y1 != 0) (some ([], y1)) ((m_piece_played a0).bind fun y3 => some (y3, 0))
def m_chord_rootWords  : Option (List ByteArray) :=
  some [(ByteArray.mk [99].toArray), (ByteArray.mk [99, 35].toArray), (ByteArray.mk [100].toArray), (ByteArray.mk [100, 35].toArray), (ByteArray.mk [101].toArray), (ByteArray.mk [102].toArray), (ByteArray.mk [102, 35].toArray), (ByteArray.mk [103].toArray), (ByteArray.mk [103, 35].toArray), (ByteArray.mk [97].toArray), (ByteArray.mk [97, 35].toArray), (ByteArray.mk [98].toArray)]
def m_chord_kindWords  : Option (List ByteArray) :=
  some [ByteArray.empty, (ByteArray.mk [109, 97, 106].toArray), (ByteArray.mk [109, 105, 110].toArray), (ByteArray.mk [100, 105, 109].toArray), (ByteArray.mk [97, 117, 103].toArray), (ByteArray.mk [55].toArray), (ByteArray.mk [109, 97, 106, 55].toArray), (ByteArray.mk [109, 105, 110, 55].toArray)]
def m_chord_Name (a0 : TChord) : Option (ByteArray × Int) :=
  (m_chord_CheckChord a0).bind fun y2 => ifB (y2 != 0) (some (ByteArray.empty, y2)) ((m_chord_rootWords.bind fun y6 => (getI y6 a0.Root).bind fun e8 => (catM e8 (ByteArray.mk [32].toArray)).bind fun c9 => m_chord_kindWords.bind fun y10 => (getI y10 a0.Kind).bind fun e12 => (catM c9 e12).bind fun c13 => some (.inl c13) : Option (ByteArray ⊕ (ByteArray × Int))).bind fun k5 => Sum.fin k5 fun u3 => ifB (decide (a0.Turn > 0)) ((m_strconv_Itoa a0.Turn).bind fun y18 => (catM (ByteArray.mk [47].toArray) y18).bind fun c19 => (catM u3 c19).bind fun c20 => some (c20, 0)) (some (u3, 0)))
def m_kit_IsMoment (a0 : Int) : Option Bool :=
  (m_kit_Outside a0 0 345686399999).bind fun y1 => some (!y1)
def m_kit_IsKey (a0 : ByteArray) : Option Bool :=
  ifB (!(a0.toList == ByteArray.empty.toList)) (ifB (decide ((a0.size : Int) ≤ 40)) ((strI a0 0).bind fun c1 => (m_strings_IndexByte (ByteArray.mk [97, 98, 99, 100, 101, 102, 103, 104, 105, 106, 107, 108, 109, 110, 111, 112, 113, 114, 115, 116, 117, 118, 119, 120, 121, 122].toArray) c1).bind fun y2 => ifB (decide (y2 ≥ 0)) ((m_strings_Trim a0 (ByteArray.mk [97, 98, 99, 100, 101, 102, 103, 104, 105, 106, 107, 108, 109, 110, 111, 112, 113, 114, 115, 116, 117, 118, 119, 120, 121, 122, 48, 49, 50, 51, 52, 53, 54, 55, 56, 57, 45, 95].toArray)).bind fun y3 => some (y3.toList == ByteArray.empty.toList)) (some false)) (some false)) (some false)
def m_cmp_isNaN_int (a0 : Int) : Option Bool :=
  some (a0 != a0)
def m_cmp_Compare_int (a0 : Int) (a1 : Int) : Option Int :=
  (m_cmp_isNaN_int a0).bind fun y1 => (m_cmp_isNaN_int a1).bind fun y2 => ifB y1 (ifB y2 (some 0) (some (-1))) (ifB y2 (some 1) (ifB (decide (a0 < a1)) (some (-1)) (ifB (decide (a0 > a1)) (some 1) (some 0))))
def m_rehearse_flagNumber (a0 : Bool) : Option Int :=
  ifB a0 (some 1) (some 0)
def m_cmp_Or_int_l1  (i1 : Nat) (x2 : Int) (u4 : Unit) : Option (Flow Unit Int) :=
  ifB (x2 != 0) (some (.ret x2)) (some (.nxt ()))
def m_cmp_Or_int (a0 : (List Int)) : Option Int :=
  (rangeM m_cmp_Or_int_l1 0 a0 ()).bind fun f7 => Flow.fin f7 fun u4 => some 0
def m_rehearse_compareCame (a0 : TCame) (a1 : TCame) : Option Int :=
  (m_cmp_Compare_int a0.At a1.At).bind fun y3 => (m_strings_Compare a0.Singer a1.Singer).bind fun y4 => (m_rehearse_flagNumber a0.Left).bind fun y5 => (m_rehearse_flagNumber a1.Left).bind fun y6 => (m_cmp_Compare_int y5 y6).bind fun y7 => (m_cmp_Or_int [y3, y4, y7]).bind fun y9 => some y9
def m_rehearse_CheckCame_l1 (a0 : (List TCame)) (i1 : Nat) (x2 : TCame) (u4 : Unit) : Option (Flow Unit Int) :=
  (m_kit_IsMoment x2.At).bind fun y9 => ifB (!y9) (some (.ret 1)) ((m_kit_IsKey x2.Singer).bind fun y10 => ifB (!y10) (some (.ret 5)) (ifB (decide ((i1 : Int) > 0)) ((getI a0 (w64 ((i1 : Int) - 1))).bind fun e11 => (m_rehearse_compareCame e11 x2).bind fun y12 => ifB (decide (y12 ≥ 0)) (some (.ret 7)) (some (.nxt ()))) (some (.nxt ()))))
def m_rehearse_CheckCame (a0 : (List TCame)) : Option Int :=
  ifB (decide ((a0.length : Int) > 5000)) (some 2) ((rangeM (m_rehearse_CheckCame_l1 a0) 0 a0 ()).bind fun f7 => Flow.fin f7 fun u4 => some 0)
def m_rehearse_joined_l1  (i1 : Nat) (x2 : TWindow) (u5 : (List TWindow)) : Option (Flow (List TWindow) (List TWindow)) :=
  ifB (decide ((w64 ((u5.length : Int) - 1)) ≥ 0)) ((getI u5 (w64 ((u5.length : Int) - 1))).bind fun e11 => ifB (decide (x2.From ≤ e11.To)) ((getI u5 (w64 ((u5.length : Int) - 1))).bind fun e12 => (getI u5 (w64 ((u5.length : Int) - 1))).bind fun e13 => some (.nxt (u5.set ((w64 ((u5.length : Int) - 1)).toNat) (TWindow.mk e13.From (max e12.To x2.To))))) ((appM 16 u5 [x2]).bind fun q15 => some (.nxt q15))) ((appM 16 u5 [x2]).bind fun q18 => some (.nxt q18))
def m_rehearse_joined (a0 : (List TWindow)) : Option (List TWindow) :=
  (rangeM m_rehearse_joined_l1 0 a0 []).bind fun f8 => Flow.fin f8 fun u5 => some u5
def m_rehearse_presences_l3  (i50 : Nat) (x51 : ByteArray) (u57 : (List (ByteArray × (List TWindow)))) : Option (Flow (List (ByteArray × (List TWindow))) (List (ByteArray × (List TWindow)))) :=
  (m_rehearse_joined ((lkM u57 x51).getD [])).bind fun y62 => some (.nxt (putM u57 x51 y62))
def m_rehearse_presences_l2  (i33 : Nat) (x34 : (ByteArray × Int)) (u38 : (List (ByteArray × (List TWindow)))) : Option (Flow (List (ByteArray × (List TWindow))) (List (ByteArray × (List TWindow)))) :=
  (appM 16 ((lkM u38 x34.1).getD []) [(TWindow.mk x34.2 345686400000)]).bind fun q44 => some (.nxt (putM u38 x34.1 q44))
def m_rehearse_presences_l1  (i3 : Nat) (x4 : TCame) (u6 : ((List (ByteArray × Int)) × (List (ByteArray × (List TWindow))))) : Option (Flow ((List (ByteArray × Int)) × (List (ByteArray × (List TWindow)))) (List (ByteArray × (List TWindow)))) :=
  (ifB (!x4.Left) (some (.inl (!(hasM u6.1 x4.Singer)))) (some (.inl false)) : Option (Bool ⊕ (Flow ((List (ByteArray × Int)) × (List (ByteArray × (List TWindow)))) (List (ByteArray × (List TWindow)))))).bind fun k13 => Sum.fin k13 fun u11 => ifB u11 (some (.nxt (putM u6.1 x4.Singer x4.At, u6.2))) ((ifB x4.Left (some (.inl (hasM u6.1 x4.Singer))) (some (.inl false)) : Option (Bool ⊕ (Flow ((List (ByteArray × Int)) × (List (ByteArray × (List TWindow)))) (List (ByteArray × (List TWindow)))))).bind fun k18 => Sum.fin k18 fun u16 => ifB u16 (ifB (decide (((lkM u6.1 x4.Singer).getD 0) < x4.At)) ((appM 16 ((lkM u6.2 x4.Singer).getD []) [(TWindow.mk ((lkM u6.1 x4.Singer).getD 0) x4.At)]).bind fun q22 => some (.nxt (delM u6.1 x4.Singer, putM u6.2 x4.Singer q22))) (some (.nxt (delM u6.1 x4.Singer, u6.2)))) (some (.nxt (u6.1, u6.2))))
def m_rehearse_presences (a0 : (List TCame)) : Option (List (ByteArray × (List TWindow))) :=
  (rangeM m_rehearse_presences_l1 0 a0 ([], [])).bind fun f9 => Flow.fin f9 fun u6 => anyOrd u6.1 fun L41 => (rangeM m_rehearse_presences_l2 0 L41 u6.2).bind fun f69 => Flow.fin f69 fun u38 => anyOrd (u38.map Prod.fst) fun L60 => (rangeM m_rehearse_presences_l3 0 L60 u38).bind fun f68 => Flow.fin f68 fun u57 => some (canonM u57)
def m_kit_Has (a0 : TWindow) (a1 : Int) : Option Bool :=
  ifB (decide (a0.From ≤ a1)) (some (decide (a1 < a0.To))) (some false)
def m_rehearse_There_1 (a0 : TWindow) (a1_0 : Int) : Option Bool :=
  (m_kit_Has a0 a1_0).bind fun y2 => some y2
def m_slices_IndexFunc_api_Window_api_Window__rehearse_There_1_l1 (a1_c0_0 : Int) (i1 : Nat) (x2 : TWindow) (u4 : Unit) : Option (Flow Unit Int) :=
  (m_rehearse_There_1 x2 a1_c0_0).bind fun y8 => ifB y8 (some (.ret (i1 : Int))) (some (.nxt ()))
def m_slices_IndexFunc_api_Window_api_Window__rehearse_There_1 (a0 : (List TWindow)) (a1_c0_0 : Int) : Option Int :=
  (rangeM (m_slices_IndexFunc_api_Window_api_Window__rehearse_There_1_l1 a1_c0_0) 0 a0 ()).bind fun f7 => Flow.fin f7 fun u4 => some (-1)
def m_slices_ContainsFunc_api_Window_api_Window__rehearse_There_1 (a0 : (List TWindow)) (a1_c0_0 : Int) : Option Bool :=
  (m_slices_IndexFunc_api_Window_api_Window__rehearse_There_1 a0 a1_c0_0).bind fun y1 => some (decide (y1 ≥ 0))
noncomputable def m_slices_Sorted_string__maps_Keys_map_string_bool_string_bool_1 (a0_c0_0 : (List (ByteArray × Bool))) : Option (List ByteArray) :=
  if a0_c0_0.length ≤ 1000000000 then m_slices_Sort_string_string (a0_c0_0.map Prod.fst) else none
def m_rehearse_There_l1 (a1 : Int) (q12 : (List (ByteArray × (List TWindow)))) (i16 : Nat) (x17 : ByteArray) (u23 : (List (ByteArray × Bool))) : Option (Flow (List (ByteArray × Bool)) ((List ByteArray) × Int)) :=
  (m_slices_ContainsFunc_api_Window_api_Window__rehearse_There_1 ((lkM q12 x17).getD []) a1).bind fun y28 => ifB y28 (some (.nxt (putM u23 x17 true))) (some (.nxt u23))
def m_rehearse_There (a0 : (List TCame)) (a1 : Int) : Option ((List ByteArray) × Int) :=
  (m_rehearse_CheckCame a0).bind fun y2 => ifB (y2 != 0) (some ([], y2)) ((m_kit_IsMoment a1).bind fun y4 => ifB (!y4) (some ([], 1)) ((m_rehearse_presences a0).bind fun y7 => anyOrd y7 fun q12 => anyOrd (q12.map Prod.fst) fun L26 => (rangeM (m_rehearse_There_l1 a1 q12) 0 L26 []).bind fun f34 => Flow.fin f34 fun u23 => (m_slices_Sorted_string__maps_Keys_map_string_bool_string_bool_1 u23).bind fun y32 => some (y32, 0)))
def m_club_usesOf (a0 : Int) : Option Tclub_uses :=
  ifB (a0 == 1) (ifB (a0 == 4) (ifB (a0 == 1) (some (Tclub_uses.mk true true true (a0 == 5) (a0 == 7))) (some (Tclub_uses.mk true true (a0 == 3) (a0 == 5) (a0 == 7)))) (ifB (a0 == 5) (ifB (a0 == 1) (some (Tclub_uses.mk true true true (a0 == 5) (a0 == 7))) (some (Tclub_uses.mk true true (a0 == 3) (a0 == 5) (a0 == 7)))) (ifB (a0 == 1) (some (Tclub_uses.mk true (a0 == 6) true (a0 == 5) (a0 == 7))) (some (Tclub_uses.mk true (a0 == 6) (a0 == 3) (a0 == 5) (a0 == 7)))))) (ifB (a0 == 2) (ifB (a0 == 4) (ifB (a0 == 1) (some (Tclub_uses.mk true true true (a0 == 5) (a0 == 7))) (some (Tclub_uses.mk true true (a0 == 3) (a0 == 5) (a0 == 7)))) (ifB (a0 == 5) (ifB (a0 == 1) (some (Tclub_uses.mk true true true (a0 == 5) (a0 == 7))) (some (Tclub_uses.mk true true (a0 == 3) (a0 == 5) (a0 == 7)))) (ifB (a0 == 1) (some (Tclub_uses.mk true (a0 == 6) true (a0 == 5) (a0 == 7))) (some (Tclub_uses.mk true (a0 == 6) (a0 == 3) (a0 == 5) (a0 == 7)))))) (ifB (a0 == 3) (ifB (a0 == 4) (ifB (a0 == 1) (some (Tclub_uses.mk true true true (a0 == 5) (a0 == 7))) (some (Tclub_uses.mk true true (a0 == 3) (a0 == 5) (a0 == 7)))) (ifB (a0 == 5) (ifB (a0 == 1) (some (Tclub_uses.mk true true true (a0 == 5) (a0 == 7))) (some (Tclub_uses.mk true true (a0 == 3) (a0 == 5) (a0 == 7)))) (ifB (a0 == 1) (some (Tclub_uses.mk true (a0 == 6) true (a0 == 5) (a0 == 7))) (some (Tclub_uses.mk true (a0 == 6) (a0 == 3) (a0 == 5) (a0 == 7)))))) (ifB (a0 == 4) (ifB (a0 == 1) (some (Tclub_uses.mk (a0 == 5) true true (a0 == 5) (a0 == 7))) (some (Tclub_uses.mk (a0 == 5) true (a0 == 3) (a0 == 5) (a0 == 7)))) (ifB (a0 == 5) (ifB (a0 == 1) (some (Tclub_uses.mk (a0 == 5) true true (a0 == 5) (a0 == 7))) (some (Tclub_uses.mk (a0 == 5) true (a0 == 3) (a0 == 5) (a0 == 7)))) (ifB (a0 == 1) (some (Tclub_uses.mk (a0 == 5) (a0 == 6) true (a0 == 5) (a0 == 7))) (some (Tclub_uses.mk (a0 == 5) (a0 == 6) (a0 == 3) (a0 == 5) (a0 == 7))))))))
def m_club_formed (a0 : TAct) : Option Int :=
  (m_kit_IsKey a0.Site).bind fun y2 => ifB (!y2) (some 5) (((m_kit_Outside a0.No 1 1000000).bind fun y6 => ifB y6 (some (.inl true)) ((m_kit_IsMoment a0.At).bind fun y7 => some (.inl (!y7))) : Option (Bool ⊕ Int)).bind fun k5 => Sum.fin k5 fun u3 => ifB u3 (some 1) ((m_kit_Outside a0.Kind 1 7).bind fun y8 => ifB y8 (some 4) ((m_club_usesOf a0.Kind).bind fun y9 => (ifB (a0.Kind == 3) (some (.inl 1)) (some (.inl 0)) : Option (Int ⊕ Int)).bind fun k13 => Sum.fin k13 fun u11 => (ifB y9.who ((m_kit_IsKey a0.Who).bind fun y17 => ifB (!y17) (some (.inl true)) (ifB y9.motion ((m_kit_IsKey a0.Motion).bind fun y18 => ifB (!y18) (some (.inl true)) (ifB y9.undo ((m_kit_IsKey a0.Of).bind fun y19 => some (.inl (!y19))) (some (.inl false)))) (ifB y9.undo ((m_kit_IsKey a0.Of).bind fun y20 => some (.inl (!y20))) (some (.inl false))))) (ifB y9.motion ((m_kit_IsKey a0.Motion).bind fun y21 => ifB (!y21) (some (.inl true)) (ifB y9.undo ((m_kit_IsKey a0.Of).bind fun y22 => some (.inl (!y22))) (some (.inl false)))) (ifB y9.undo ((m_kit_IsKey a0.Of).bind fun y23 => some (.inl (!y23))) (some (.inl false)))) : Option (Bool ⊕ Int)).bind fun k16 => Sum.fin k16 fun u14 => ifB u14 (some 5) ((ifB y9.cents ((m_kit_Outside a0.Cents u11 1000000000).bind fun y27 => ifB y27 (some (.inl true)) (ifB y9.undo ((m_kit_Outside a0.Other 1 1000000).bind fun y28 => some (.inl y28)) (some (.inl false)))) (ifB y9.undo ((m_kit_Outside a0.Other 1 1000000).bind fun y29 => some (.inl y29)) (some (.inl false))) : Option (Bool ⊕ Int)).bind fun k26 => Sum.fin k26 fun u24 => ifB u24 (some 1) ((ifB (!y9.who) (ifB (!(a0.Who.toList == ByteArray.empty.toList)) (some (.inl true)) (ifB (!y9.motion) (ifB (!(a0.Motion.toList == ByteArray.empty.toList)) (some (.inl true)) (ifB (!y9.cents) (ifB (a0.Cents != 0) (some (.inl true)) (ifB (!y9.yes) (ifB a0.Yes (some (.inl true)) (ifB (!y9.undo) (ifB (!(a0.Of.toList == ByteArray.empty.toList)) (some (.inl true)) (some (.inl (a0.Other != 0)))) (some (.inl false)))) (ifB (!y9.undo) (ifB (!(a0.Of.toList == ByteArray.empty.toList)) (some (.inl true)) (some (.inl (a0.Other != 0)))) (some (.inl false))))) (ifB (!y9.yes) (ifB a0.Yes (some (.inl true)) (ifB (!y9.undo) (ifB (!(a0.Of.toList == ByteArray.empty.toList)) (some (.inl true)) (some (.inl (a0.Other != 0)))) (some (.inl false)))) (ifB (!y9.undo) (ifB (!(a0.Of.toList == ByteArray.empty.toList)) (some (.inl true)) (some (.inl (a0.Other != 0)))) (some (.inl false)))))) (ifB (!y9.cents) (ifB (a0.Cents != 0) (some (.inl true)) (ifB (!y9.yes) (ifB a0.Yes (some (.inl true)) (ifB (!y9.undo) (ifB (!(a0.Of.toList == ByteArray.empty.toList)) (some (.inl true)) (some (.inl (a0.Other != 0)))) (some (.inl false)))) (ifB (!y9.undo) (ifB (!(a0.Of.toList == ByteArray.empty.toList)) (some (.inl true)) (some (.inl (a0.Other != 0)))) (some (.inl false))))) (ifB (!y9.yes) (ifB a0.Yes (some (.inl true)) (ifB (!y9.undo) (ifB (!(a0.Of.toList == ByteArray.empty.toList)) (some (.inl true)) (some (.inl (a0.Other != 0)))) (some (.inl false)))) (ifB (!y9.undo) (ifB (!(a0.Of.toList == ByteArray.empty.toList)) (some (.inl true)) (some (.inl (a0.Other != 0)))) (some (.inl false))))))) (ifB (!y9.motion) (ifB (!(a0.Motion.toList == ByteArray.empty.toList)) (some (.inl true)) (ifB (!y9.cents) (ifB (a0.Cents != 0) (some (.inl true)) (ifB (!y9.yes) (ifB a0.Yes (some (.inl true)) (ifB (!y9.undo) (ifB (!(a0.Of.toList == ByteArray.empty.toList)) (some (.inl true)) (some (.inl (a0.Other != 0)))) (some (.inl false)))) (ifB (!y9.undo) (ifB (!(a0.Of.toList == ByteArray.empty.toList)) (some (.inl true)) (some (.inl (a0.Other != 0)))) (some (.inl false))))) (ifB (!y9.yes) (ifB a0.Yes (some (.inl true)) (ifB (!y9.undo) (ifB (!(a0.Of.toList == ByteArray.empty.toList)) (some (.inl true)) (some (.inl (a0.Other != 0)))) (some (.inl false)))) (ifB (!y9.undo) (ifB (!(a0.Of.toList == ByteArray.empty.toList)) (some (.inl true)) (some (.inl (a0.Other != 0)))) (some (.inl false)))))) (ifB (!y9.cents) (ifB (a0.Cents != 0) (some (.inl true)) (ifB (!y9.yes) (ifB a0.Yes (some (.inl true)) (ifB (!y9.undo) (ifB (!(a0.Of.toList == ByteArray.empty.toList)) (some (.inl true)) (some (.inl (a0.Other != 0)))) (some (.inl false)))) (ifB (!y9.undo) (ifB (!(a0.Of.toList == ByteArray.empty.toList)) (some (.inl true)) (some (.inl (a0.Other != 0)))) (some (.inl false))))) (ifB (!y9.yes) (ifB a0.Yes (some (.inl true)) (ifB (!y9.undo) (ifB (!(a0.Of.toList == ByteArray.empty.toList)) (some (.inl true)) (some (.inl (a0.Other != 0)))) (some (.inl false)))) (ifB (!y9.undo) (ifB (!(a0.Of.toList == ByteArray.empty.toList)) (some (.inl true)) (some (.inl (a0.Other != 0)))) (some (.inl false)))))) : Option (Bool ⊕ Int)).bind fun k32 => Sum.fin k32 fun u30 => ifB u30 (some 3) (some 0))))))
def m_club_compare (a0 : TAct) (a1 : TAct) : Option Int :=
  (m_cmp_Compare_int a0.At a1.At).bind fun y3 => (m_strings_Compare a0.Site a1.Site).bind fun y4 => (m_cmp_Compare_int a0.No a1.No).bind fun y5 => (m_cmp_Or_int [y3, y4, y5]).bind fun y7 => some y7
def m_club_CheckActs_l2  (i13 : Nat) (x14 : TAct) (u16 : (List (Tclub_own × Bool))) : Option (Flow (List (Tclub_own × Bool)) Int) :=
  ifB ((lkM u16 (Tclub_own.mk x14.Site x14.No)).getD false) (some (.ret 6)) (some (.nxt (putM u16 (Tclub_own.mk x14.Site x14.No) true)))
def m_club_CheckActs_l1 (a0 : (List TAct)) (i1 : Nat) (x2 : TAct) (u4 : Unit) : Option (Flow Unit Int) :=
  (m_club_formed x2).bind fun y9 => ifB (y9 != 0) (some (.ret y9)) (ifB (decide ((i1 : Int) > 0)) ((getI a0 (w64 ((i1 : Int) - 1))).bind fun e10 => (m_club_compare e10 x2).bind fun y11 => ifB (decide (y11 ≥ 0)) (some (.ret 7)) (some (.nxt ()))) (some (.nxt ())))
def m_club_CheckActs (a0 : (List TAct)) : Option Int :=
  ifB (decide ((a0.length : Int) > 2000)) (some 2) ((rangeM (m_club_CheckActs_l1 a0) 0 a0 ()).bind fun f7 => Flow.fin f7 fun u4 => (rangeM m_club_CheckActs_l2 0 a0 []).bind fun f19 => Flow.fin f19 fun u16 => some 0)
def m_club_askedFault (a0 : (List TAct)) (a1 : Int) : Option Int :=
  (m_club_CheckActs a0).bind fun y1 => ifB (y1 != 0) (some y1) ((m_kit_IsMoment a1).bind fun y2 => ifB (!y2) (some 1) (some 0))
def m_slices_Reverse_int_int_l1  (u1 : (Int × Int × (List Int))) : Option (Flow (Int × Int × (List Int)) (List Int)) :=
  ifB (decide (u1.1 < u1.2.1)) ((getI u1.2.2 u1.2.1).bind fun e5 => (getI u1.2.2 u1.1).bind fun e6 => (getI u1.2.2 u1.1).bind fun e7 => (getI (u1.2.2.set u1.1.toNat e5) u1.2.1).bind fun e8 => some (.nxt (w64 (u1.1 + 1), w64 (u1.2.1 - 1), ((u1.2.2.set u1.1.toNat e5).set u1.2.1.toNat e6)))) (some (.brk (u1.1, u1.2.1, u1.2.2)))
def m_slices_Reverse_int_int (a0 : (List Int)) : Option (List Int) :=
  (loopM m_slices_Reverse_int_int_l1 (0, w64 ((a0.length : Int) - 1), a0)).bind fun f4 => Flow.fin f4 fun u1 => some u1.2.2
def m_club_counting_l1 (a1 : Int) (i6 : Nat) (x7 : TAct) (u13 : ((List (Tclub_own × Bool)) × (List Int))) : Option (Flow ((List (Tclub_own × Bool)) × (List Int)) (List Int)) :=
  (ifB (decide (x7.At > a1)) (some (.inl true)) (some (.inl ((lkM u13.1 (Tclub_own.mk x7.Site x7.No)).getD false))) : Option (Bool ⊕ (Flow ((List (Tclub_own × Bool)) × (List Int)) (List Int)))).bind fun k21 => Sum.fin k21 fun u19 => ifB u19 (some (.nxt (u13.1, u13.2))) ((appM 8 u13.2 [(i6 : Int)]).bind fun q23 => ifB (x7.Kind == 7) (some (.nxt (putM u13.1 (Tclub_own.mk x7.Of x7.Other) true, q23))) (some (.nxt (u13.1, q23))))
def m_club_counting (a0 : (List TAct)) (a1 : Int) : Option (List Int) :=
  (rangeB (m_club_counting_l1 a1) a0 ([], [])).bind fun f16 => Flow.fin f16 fun u13 => (m_slices_Reverse_int_int u13.2).bind fun y29 => some y29
def m_club_books_isMember (a0_0 : Int) (a0_1 : (List (ByteArray × (List Tclub_stay)))) (a0_2 : (List (ByteArray × Int))) (a0_3 : (List (ByteArray × (Bool × (List (ByteArray × Bool)) × (List ByteArray))))) (a0_4 : (List Int)) (a1 : ByteArray) : Option Bool :=
  ifB (decide ((((lkM a0_1 a1).getD []).length : Int) > 0)) ((getI ((lkM a0_1 a1).getD []) (w64 ((((lkM a0_1 a1).getD []).length : Int) - 1))).bind fun e1 => some (decide (e1.till < 0))) (some false)
def m_club_books_isOpen (a0_0 : Int) (a0_1 : (List (ByteArray × (List Tclub_stay)))) (a0_2 : (List (ByteArray × Int))) (a0_3 : (List (ByteArray × (Bool × (List (ByteArray × Bool)) × (List ByteArray))))) (a0_4 : (List Int)) (a1 : ByteArray) : Option Bool :=
  optB (lkM a0_3 a1) (some false) (fun t4 => some (!t4.1))
def m_club_books_permits (a0_0 : Int) (a0_1 : (List (ByteArray × (List Tclub_stay)))) (a0_2 : (List (ByteArray × Int))) (a0_3 : (List (ByteArray × (Bool × (List (ByteArray × Bool)) × (List ByteArray))))) (a0_4 : (List Int)) (a1 : TAct) : Option Bool :=
  ifB (a1.Kind == 1) ((m_club_books_isMember a0_0 a0_1 a0_2 a0_3 a0_4 a1.Who).bind fun y2 => some (!y2)) (ifB (a1.Kind == 2) ((m_club_books_isMember a0_0 a0_1 a0_2 a0_3 a0_4 a1.Who).bind fun y3 => some y3) (ifB (a1.Kind == 4) (optB (lkM a0_3 a1.Motion) (some true) (fun t7 => some false)) (ifB (a1.Kind == 5) ((m_club_books_isMember a0_0 a0_1 a0_2 a0_3 a0_4 a1.Who).bind fun y15 => ifB y15 ((m_club_books_isOpen a0_0 a0_1 a0_2 a0_3 a0_4 a1.Motion).bind fun y16 => some y16) (some false)) (ifB (a1.Kind == 6) ((m_club_books_isOpen a0_0 a0_1 a0_2 a0_3 a0_4 a1.Motion).bind fun y17 => some y17) (some true)))))
noncomputable def m_slices_Sorted_string__maps_Keys_map_string_club_stay_string_club_stay_1 (a0_c0_0 : (List (ByteArray × (List Tclub_stay)))) : Option (List ByteArray) :=
  if a0_c0_0.length ≤ 1000000000 then m_slices_Sort_string_string (a0_c0_0.map Prod.fst) else none
def m_club_books_members_l1 (a0_0 : Int) (a0_1 : (List (ByteArray × (List Tclub_stay)))) (a0_2 : (List (ByteArray × Int))) (a0_3 : (List (ByteArray × (Bool × (List (ByteArray × Bool)) × (List ByteArray))))) (a0_4 : (List Int)) (i4 : Nat) (x5 : ByteArray) (u8 : (List ByteArray)) : Option (Flow (List ByteArray) (List ByteArray)) :=
  (m_club_books_isMember a0_0 a0_1 a0_2 a0_3 a0_4 x5).bind fun y13 => ifB y13 ((appM 16 u8 [x5]).bind fun q15 => some (.nxt q15)) (some (.nxt u8))
def m_club_books_members (a0_0 : Int) (a0_1 : (List (ByteArray × (List Tclub_stay)))) (a0_2 : (List (ByteArray × Int))) (a0_3 : (List (ByteArray × (Bool × (List (ByteArray × Bool)) × (List ByteArray))))) (a0_4 : (List Int)) : Option (List ByteArray) :=
  (m_slices_Sorted_string__maps_Keys_map_string_club_stay_string_club_stay_1 a0_1).bind fun y2 => (rangeM (m_club_books_members_l1 a0_0 a0_1 a0_2 a0_3 a0_4) 0 y2 []).bind fun f11 => Flow.fin f11 fun u8 => some u8
def m_club_books_act (a0_0 : Int) (a0_1 : (List (ByteArray × (List Tclub_stay)))) (a0_2 : (List (ByteArray × Int))) (a0_3 : (List (ByteArray × (Bool × (List (ByteArray × Bool)) × (List ByteArray))))) (a0_4 : (List Int)) (a1 : TAct) : Option ((List (ByteArray × (List Tclub_stay))) × (List (ByteArray × Int)) × (List (ByteArray × (Bool × (List (ByteArray × Bool)) × (List ByteArray))))) :=
  ifB (a1.Kind == 1) ((appM 24 ((lkM a0_1 a1.Who).getD []) [(Tclub_stay.mk a1.At (-1) a1.Cents)]).bind fun q4 => some (putM a0_1 a1.Who q4, a0_2, a0_3)) (ifB (a1.Kind == 2) ((getI ((lkM a0_1 a1.Who).getD []) (w64 ((((lkM a0_1 a1.Who).getD []).length : Int) - 1))).bind fun e13 => some (repM a0_1 a1.Who (((lkM a0_1 a1.Who).getD []).set ((w64 ((((lkM a0_1 a1.Who).getD []).length : Int) - 1)).toNat) (Tclub_stay.mk e13.since a1.At e13.cents)), a0_2, a0_3)) (ifB (a1.Kind == 3) (some (a0_1, putM a0_2 a1.Who (w64 (((lkM a0_2 a1.Who).getD 0) + a1.Cents)), a0_3)) (ifB (a1.Kind == 4) (some (a0_1, a0_2, putM a0_3 a1.Motion (false, ([] : (List (ByteArray × Bool))), ([] : List ByteArray)))) (ifB (a1.Kind == 5) (optB (lkM a0_3 a1.Motion) (none) (fun t30 => some (a0_1, a0_2, repM a0_3 a1.Motion (t30.1, (putM t30.2.1 a1.Who a1.Yes), t30.2.2)))) (ifB (a1.Kind == 6) (optB (lkM a0_3 a1.Motion) ((m_club_books_members a0_0 a0_1 a0_2 a0_3 a0_4).bind fun y45 => none) (fun t43 => (m_club_books_members a0_0 a0_1 a0_2 a0_3 a0_4).bind fun y53 => some (a0_1, a0_2, repM a0_3 a1.Motion (true, t43.2.1, y53)))) (some (a0_1, a0_2, a0_3)))))))
def m_club_booksAt_l1 (a0 : (List TAct)) (a1 : Int) (i7 : Nat) (x8 : Int) (u11 : ((List (ByteArray × (Bool × (List (ByteArray × Bool)) × (List ByteArray)))) × (List (ByteArray × Int)) × (List (ByteArray × (List Tclub_stay))) × (List Int))) : Option (Flow ((List (ByteArray × (Bool × (List (ByteArray × Bool)) × (List ByteArray)))) × (List (ByteArray × Int)) × (List (ByteArray × (List Tclub_stay))) × (List Int)) (Int × (List (ByteArray × (List Tclub_stay))) × (List (ByteArray × Int)) × (List (ByteArray × (Bool × (List (ByteArray × Bool)) × (List ByteArray)))) × (List Int))) :=
  (getI a0 x8).bind fun e16 => (m_club_books_permits a1 u11.2.2.1 u11.2.1 u11.1 u11.2.2.2 e16).bind fun y17 => ifB y17 ((getI a0 x8).bind fun e18 => (m_club_books_act a1 u11.2.2.1 u11.2.1 u11.1 u11.2.2.2 e18).bind fun y19 => some (.nxt (y19.2.2, y19.2.1, y19.1, u11.2.2.2))) ((appM 8 u11.2.2.2 [x8]).bind fun q29 => some (.nxt (u11.1, u11.2.1, u11.2.2.1, q29)))
def m_club_booksAt (a0 : (List TAct)) (a1 : Int) : Option (Int × (List (ByteArray × (List Tclub_stay))) × (List (ByteArray × Int)) × (List (ByteArray × (Bool × (List (ByteArray × Bool)) × (List ByteArray)))) × (List Int)) :=
  (m_club_counting a0 a1).bind fun y5 => (rangeM (m_club_booksAt_l1 a0 a1) 0 y5 ([], [], [], [])).bind fun f14 => Flow.fin f14 fun u11 => some (a1, u11.2.2.1, u11.2.1, u11.1, u11.2.2.2)
def m_club_checkedAt (a0 : (List TAct)) (a1 : Int) : Option ((Option (Int × (List (ByteArray × (List Tclub_stay))) × (List (ByteArray × Int)) × (List (ByteArray × (Bool × (List (ByteArray × Bool)) × (List ByteArray)))) × (List Int))) × Int) :=
  (m_club_askedFault a0 a1).bind fun y1 => ifB (y1 != 0) (some (none, y1)) ((m_club_booksAt a0 a1).bind fun y2 => some (some (y2.1, y2.2.1, y2.2.2.1, y2.2.2.2.1, y2.2.2.2.2), 0))
def m_club_Members (a0 : (List TAct)) (a1 : Int) : Option ((List ByteArray) × Int) :=
  (m_club_checkedAt a0 a1).bind fun y1 => optB y1.1 (ifB (y1.2 != 0) (some ([], y1.2)) (none)) (fun t2 => ifB (y1.2 != 0) (some ([], y1.2)) ((m_club_books_members t2.1 t2.2.1 t2.2.2.1 t2.2.2.2.1 t2.2.2.2.2).bind fun y33 => some (y33, 0)))
def m_gleetop_h10facts  : Option Bool :=
  (m_piece_Order [(TBar.mk 1 4 2 0 true)]).bind fun y2 => (m_chord_Name (TChord.mk 1 2 1)).bind fun y4 => (m_rehearse_There [(TCame.mk 5 (ByteArray.mk [97, 110, 110].toArray) false)] 6).bind fun y6 => (m_club_Members [(TAct.mk (ByteArray.mk [97].toArray) 1 0 1 (ByteArray.mk [97, 110, 110].toArray) ByteArray.empty 0 false ByteArray.empty 0)] 0).bind fun y9 => ifB (y2.2 == 0) (ifB (y4.2 == 0) (ifB (y6.2 == 0) (ifB (y9.2 == 0) (ifB ((y2.1.length : Int) == 2) (ifB (y4.1.toList == (ByteArray.mk [99, 35, 32, 109, 105, 110, 47, 49].toArray).toList) (ifB ((y6.1.length : Int) == 1) (some ((y9.1.length : Int) == 1)) (some false)) (some false)) (some false)) (some false)) (some false)) (some false)) (some false)
def m_gleeref2_RangesFault_1 (a0 : TRange) : Option Bool :=
  some (decide ((w64 (a0.High - a0.Low)) > 24))
def m_slices_IndexFunc_api_Range_api_Range__gleeref2_RangesFault_1_l1  (i1 : Nat) (x2 : TRange) (u4 : Unit) : Option (Flow Unit Int) :=
  (m_gleeref2_RangesFault_1 x2).bind fun y8 => ifB y8 (some (.ret (i1 : Int))) (some (.nxt ()))
def m_slices_IndexFunc_api_Range_api_Range__gleeref2_RangesFault_1 (a0 : (List TRange)) : Option Int :=
  (rangeM m_slices_IndexFunc_api_Range_api_Range__gleeref2_RangesFault_1_l1 0 a0 ()).bind fun f7 => Flow.fin f7 fun u4 => some (-1)
def m_slices_ContainsFunc_api_Range_api_Range__gleeref2_RangesFault_1 (a0 : (List TRange)) : Option Bool :=
  (m_slices_IndexFunc_api_Range_api_Range__gleeref2_RangesFault_1 a0).bind fun y1 => some (decide (y1 ≥ 0))
def m_gleeref2_RangesFault_l1  (i1 : Nat) (x2 : TRange) (u4 : Unit) : Option (Flow Unit Int) :=
  ((m_gleeref2_in x2.Low 0 x2.High).bind fun y12 => ifB (!y12) (some (.inl true)) (some (.inl (decide (x2.High > 127)))) : Option (Bool ⊕ (Flow Unit Int))).bind fun k11 => Sum.fin k11 fun u9 => ifB u9 (some (.ret 1)) (some (.nxt ()))
def m_gleeref2_RangesFault (a0 : (List TRange)) : Option Int :=
  ifB ((a0.length : Int) == 0) (some 8) (ifB (decide ((a0.length : Int) > 5)) (some 2) ((rangeM m_gleeref2_RangesFault_l1 0 a0 ()).bind fun f7 => Flow.fin f7 fun u4 => (m_slices_ContainsFunc_api_Range_api_Range__gleeref2_RangesFault_1 a0).bind fun y13 => ifB y13 (some 2) (some 0)))
def m_kit_Lowest_l1  (u2 : (Int × Int)) : Option (Flow (Int × Int) TFraction) :=
  ifB (u2.2 != 0) ((remM u2.1 u2.2).bind fun z6 => some (.nxt (u2.2, z6))) (some (.brk (u2.1, u2.2)))
def m_kit_Lowest (a0 : Int) (a1 : Int) : Option TFraction :=
  (loopM m_kit_Lowest_l1 (a0, a1)).bind fun f5 => Flow.fin f5 fun u2 => (quoM a0 u2.1).bind fun z7 => (quoM a1 u2.1).bind fun z8 => some (TFraction.mk z7 z8)
def m_piece_fraction (a0 : Int) : Option TFraction :=
  (m_kit_Lowest a0 192).bind fun y2 => some y2
def m_piece_long (a0 : TBar) : Option Int :=
  (quoM 192 a0.Unit).bind fun z2 => some (w64 (a0.Beats * z2))
def m_piece_Begins_l1  (i3 : Nat) (x4 : TBar) (u7 : (Int × (List TFraction))) : Option (Flow (Int × (List TFraction)) ((List TFraction) × Int)) :=
  (m_piece_fraction u7.1).bind fun y13 => (appM 16 u7.2 [y13]).bind fun q15 => (m_piece_long x4).bind fun y17 => some (.nxt (w64 (u7.1 + y17), q15))
def m_piece_Begins (a0 : (List TBar)) : Option ((List TFraction) × Int) :=
  (m_piece_CheckBars a0).bind fun y1 => ifB (y1 != 0) (some ([], y1)) ((rangeM m_piece_Begins_l1 0 a0 (0, [])).bind fun f10 => Flow.fin f10 fun u7 => some (u7.2, 0))
def m_piece_isLowest_l1  (u2 : (Int × Int)) : Option (Flow (Int × Int) Bool) :=
  ifB (u2.2 != 0) ((remM u2.1 u2.2).bind fun z6 => some (.nxt (u2.2, z6))) (some (.brk (u2.1, u2.2)))
def m_piece_isLowest (a0 : TFraction) : Option Bool :=
  (loopM m_piece_isLowest_l1 (a0.Num, a0.Den)).bind fun f5 => Flow.fin f5 fun u2 => ifB (decide (a0.Den > 0)) (ifB (u2.1 == 1) (some true) (some (u2.1 == (-1)))) (some false)
def m_piece_isText_l1 (a0 : ByteArray) (i5 : Nat) (x6 : Nat) (u8 : Unit) : Option (Flow Unit Bool) :=
  ((strI a0 (i5 : Int)).bind fun c15 => ifB (decide (c15 < 33)) (some (.inl true)) ((strI a0 (i5 : Int)).bind fun c16 => ifB (c16 == 127) (some (.inl true)) ((strI a0 (i5 : Int)).bind fun c17 => some (.inl (c17 == 124)))) : Option (Bool ⊕ (Flow Unit Bool))).bind fun k14 => Sum.fin k14 fun u12 => ifB u12 (some (.ret false)) (some (.nxt ()))
def m_piece_isText (a0 : ByteArray) : Option Bool :=
  (ifB (decide ((a0.size : Int) > 20)) (some (.inl true)) ((m_utf8_ValidString a0).bind fun y4 => some (.inl (!y4))) : Option (Bool ⊕ Bool)).bind fun k3 => Sum.fin k3 fun u1 => ifB u1 (some false) ((rangeI (a0.size : Int)).bind fun L18 => (rangeM (m_piece_isText_l1 a0) 0 L18 ()).bind fun f11 => Flow.fin f11 fun u8 => some true)
def m_piece_toneFault (a0 : TTone) : Option Int :=
  (ifB (a0.Note != (-1)) ((m_kit_Outside a0.Note 0 127).bind fun y5 => some (.inl y5)) (some (.inl false)) : Option (Bool ⊕ Int)).bind fun k4 => Sum.fin k4 fun u2 => ifB u2 (some 1) ((ifB (decide (a0.Long.Num < 1)) (some (.inl true)) ((m_piece_isLowest a0.Long).bind fun y9 => some (.inl (!y9))) : Option (Bool ⊕ Int)).bind fun k8 => Sum.fin k8 fun u6 => ifB u6 (some 3) (((remM 192 a0.Long.Den).bind fun z13 => ifB (z13 != 0) (some (.inl true)) (some (.inl (decide (a0.Long.Num > (w64 (16 * a0.Long.Den)))))) : Option (Bool ⊕ Int)).bind fun k12 => Sum.fin k12 fun u10 => ifB u10 (some 1) ((m_piece_isText a0.Text).bind fun y14 => ifB (!y14) (some 3) ((ifB (a0.Note == (-1)) (ifB a0.Tied (some (.inl true)) (some (.inl (!(a0.Text.toList == ByteArray.empty.toList))))) (some (.inl false)) : Option (Bool ⊕ Int)).bind fun k17 => Sum.fin k17 fun u15 => ifB u15 (some 16) (some 0)))))
def m_piece_units (a0 : TFraction) : Option Int :=
  (quoM 192 a0.Den).bind fun z2 => some (w64 (a0.Num * z2))
def m_piece_carries (a0 : TTone) (a1 : TTone) : Option Bool :=
  ifB (a1.Note == a0.Note) (some (a1.Text.toList == ByteArray.empty.toList)) (some false)
def m_piece_checkTones_l2 (a1 : (List TTone)) (a2 : Bool) (i20 : Nat) (x21 : TTone) (u23 : Unit) : Option (Flow Unit Int) :=
  ifB x21.Tied (ifB ((i20 : Int) == (w64 ((a1.length : Int) - 1))) (ifB (!a2) (some (.ret 16)) (ifB (decide ((i20 : Int) < (w64 ((a1.length : Int) - 1)))) ((getI a1 (w64 ((i20 : Int) + 1))).bind fun e28 => (m_piece_carries x21 e28).bind fun y29 => ifB (!y29) (some (.ret 16)) (some (.nxt ()))) (some (.nxt ())))) (ifB (decide ((i20 : Int) < (w64 ((a1.length : Int) - 1)))) ((getI a1 (w64 ((i20 : Int) + 1))).bind fun e30 => (m_piece_carries x21 e30).bind fun y31 => ifB (!y31) (some (.ret 16)) (some (.nxt ()))) (some (.nxt ())))) (some (.nxt ()))
def m_piece_checkTones_l1 (a0 : (List TBar)) (i1 : Nat) (x2 : TTone) (u4 : (Int × Int)) : Option (Flow (Int × Int) Int) :=
  (m_piece_toneFault x2).bind fun y9 => ifB (y9 != 0) (some (.ret y9)) ((ifB (u4.2 == 0) (ifB (u4.1 == (a0.length : Int)) (some (.inr (.ret 16))) ((getI a0 u4.1).bind fun e13 => (m_piece_long e13).bind fun y14 => some (.inl (w64 (u4.1 + 1), y14)))) (some (.inl (u4.1, u4.2))) : Option ((Int × Int) ⊕ (Flow (Int × Int) Int))).bind fun k12 => Sum.fin k12 fun u10 => (m_piece_units x2.Long).bind fun y15 => ifB (decide (y15 > u10.2)) (some (.ret 16)) ((m_piece_units x2.Long).bind fun y16 => some (.nxt (u10.1, w64 (u10.2 - y16)))))
def m_piece_checkTones (a0 : (List TBar)) (a1 : (List TTone)) (a2 : Bool) : Option Int :=
  ifB (decide ((a1.length : Int) > 2000)) (some 2) ((rangeM (m_piece_checkTones_l1 a0) 0 a1 (0, 0)).bind fun f7 => Flow.fin f7 fun u4 => (ifB (decide (u4.2 > 0)) (some (.inl true)) (some (.inl (decide (u4.1 < (a0.length : Int))))) : Option (Bool ⊕ Int)).bind fun k19 => Sum.fin k19 fun u17 => ifB u17 (some 3) ((rangeM (m_piece_checkTones_l2 a1 a2) 0 a1 ()).bind fun f26 => Flow.fin f26 fun u23 => some 0))
def m_piece_CheckTones (a0 : (List TBar)) (a1 : (List TTone)) : Option Int :=
  (m_piece_CheckBars a0).bind fun y1 => ifB (y1 != 0) (some y1) ((m_piece_checkTones a0 a1 false).bind fun y2 => some y2)
def m_piece_Sounds_l2 (a2 : TFraction) (i18 : Nat) (x19 : TTone) (u21 : Int) : Option (Flow Int (Int × Bool × Int)) :=
  (m_piece_units x19.Long).bind fun y26 => (m_piece_units a2).bind fun y27 => ifB (decide (y27 < (w64 (u21 + y26)))) (some (.ret (max x19.Note 0, x19.Note != (-1), 0))) (some (.nxt (w64 (u21 + y26))))
def m_piece_Sounds_l1  (i4 : Nat) (x5 : TBar) (u7 : Int) : Option (Flow Int (Int × Bool × Int)) :=
  (m_piece_long x5).bind fun y12 => some (.nxt (w64 (u7 + y12)))
def m_piece_Sounds (a0 : (List TBar)) (a1 : (List TTone)) (a2 : TFraction) : Option (Int × Bool × Int) :=
  (m_piece_CheckTones a0 a1).bind fun y2 => ifB (y2 != 0) (some (0, false, y2)) ((m_piece_isLowest a2).bind fun y3 => ifB (!y3) (some (0, false, 3)) ((rangeM m_piece_Sounds_l1 0 a0 0).bind fun f10 => Flow.fin f10 fun u7 => (ifB (decide (a2.Num < 0)) (some (.inl true)) ((remM 192 a2.Den).bind fun z16 => ifB (z16 != 0) (some (.inl true)) (ifB (decide (a2.Num > u7)) (some (.inl true)) ((m_piece_units a2).bind fun y17 => some (.inl (decide (y17 ≥ u7)))))) : Option (Bool ⊕ (Int × Bool × Int))).bind fun k15 => Sum.fin k15 fun u13 => ifB u13 (some (0, false, 1)) ((rangeM (m_piece_Sounds_l2 a2) 0 a1 0).bind fun f24 => Flow.fin f24 fun u21 => some (0, false, 0))))
def m_chord_notesFault_1 (a0 : Int) : Option Bool :=
  (m_kit_Outside a0 0 127).bind fun y1 => some y1
def m_slices_IndexFunc_int_int__chord_notesFault_1_l1  (i1 : Nat) (x2 : Int) (u4 : Unit) : Option (Flow Unit Int) :=
  (m_chord_notesFault_1 x2).bind fun y8 => ifB y8 (some (.ret (i1 : Int))) (some (.nxt ()))
def m_slices_IndexFunc_int_int__chord_notesFault_1 (a0 : (List Int)) : Option Int :=
  (rangeM m_slices_IndexFunc_int_int__chord_notesFault_1_l1 0 a0 ()).bind fun f7 => Flow.fin f7 fun u4 => some (-1)
def m_slices_ContainsFunc_int_int__chord_notesFault_1 (a0 : (List Int)) : Option Bool :=
  (m_slices_IndexFunc_int_int__chord_notesFault_1 a0).bind fun y1 => some (decide (y1 ≥ 0))
def m_chord_notesFault (a0 : (List Int)) (a1 : Int) : Option Int :=
  ifB ((a0.length : Int) == 0) (some 8) (ifB (decide ((a0.length : Int) > a1)) (some 2) ((m_slices_ContainsFunc_int_int__chord_notesFault_1 a0).bind fun y1 => ifB y1 (some 1) (some 0)))
def m_slices_Min_int_int_l1 (a0 : (List Int)) (u2 : (Int × Int)) : Option (Flow (Int × Int) Int) :=
  ifB (decide (u2.2 < (a0.length : Int))) ((getI a0 u2.2).bind fun e6 => some (.nxt (min u2.1 e6, w64 (u2.2 + 1)))) (some (.brk (u2.1, u2.2)))
def m_slices_Min_int_int (a0 : (List Int)) : Option Int :=
  ifB (decide ((a0.length : Int) < 1)) (none) ((getI a0 0).bind fun e1 => (loopM (m_slices_Min_int_int_l1 a0) (e1, 1)).bind fun f5 => Flow.fin f5 fun u2 => some u2.1)
def m_chord_Of_l2 (y3 : (List Int)) (y5 : Int) (i6 : Nat) (u15 : (Int × (List TChord))) : Option (Flow (Int × (List TChord)) (Flow (List TChord) ((List TChord) × Int))) :=
  ifB (decide (u15.1 ≤ 7)) ((m_chord_tones (TChord.mk (i6 : Int) u15.1 0)).bind fun y21 => (m_chord_set y21).bind fun y23 => (m_slices_Equal_int_int y23 y3).bind fun y25 => ifB y25 ((m_slices_Index_int_int y21 (y5.tmod 12)).bind fun y26 => (appM 24 u15.2 [(TChord.mk (i6 : Int) u15.1 y26)]).bind fun q28 => some (.nxt (w64 (u15.1 + 1), q28))) (some (.nxt (w64 (u15.1 + 1), u15.2)))) (some (.brk (u15.1, u15.2)))
def m_chord_Of_l1 (y3 : (List Int)) (y5 : Int) (i6 : Nat) (x7 : Nat) (u10 : (List TChord)) : Option (Flow (List TChord) ((List TChord) × Int)) :=
  (loopM (m_chord_Of_l2 y3 y5 i6) (1, u10)).bind fun f18 => Flow.fin f18 fun u15 => some (.nxt u15.2)
def m_chord_Of (a0 : (List Int)) : Option ((List TChord) × Int) :=
  (m_chord_notesFault a0 12).bind fun y1 => ifB (y1 != 0) (some ([], y1)) ((m_chord_set a0).bind fun y3 => (m_slices_Min_int_int a0).bind fun y5 => (rangeI 12).bind fun L32 => (rangeM (m_chord_Of_l1 y3 y5) 0 L32 []).bind fun f13 => Flow.fin f13 fun u10 => some (u10, 0))
def m_gleetop_TopVoicesArePieces_1 (a0 : TChord) (a1_0 : (List TChord)) (a2_0 : Int) : Option Bool :=
  (getI a1_0 a2_0).bind fun e2 => ifB (a0.Root == e2.Root) ((getI a1_0 a2_0).bind fun e3 => some (a0.Kind == e3.Kind)) (some false)
def m_slices_IndexFunc_api_Chord_api_Chord__gleetop_TopVoicesArePieces_1_l1 (a1_c0_0 : (List TChord)) (a1_c1_0 : Int) (i1 : Nat) (x2 : TChord) (u4 : Unit) : Option (Flow Unit Int) :=
  (m_gleetop_TopVoicesArePieces_1 x2 a1_c0_0 a1_c1_0).bind fun y8 => ifB y8 (some (.ret (i1 : Int))) (some (.nxt ()))
def m_slices_IndexFunc_api_Chord_api_Chord__gleetop_TopVoicesArePieces_1 (a0 : (List TChord)) (a1_c0_0 : (List TChord)) (a1_c1_0 : Int) : Option Int :=
  (rangeM (m_slices_IndexFunc_api_Chord_api_Chord__gleetop_TopVoicesArePieces_1_l1 a1_c0_0 a1_c1_0) 0 a0 ()).bind fun f7 => Flow.fin f7 fun u4 => some (-1)
def m_slices_ContainsFunc_api_Chord_api_Chord__gleetop_TopVoicesArePieces_1 (a0 : (List TChord)) (a1_c0_0 : (List TChord)) (a1_c1_0 : Int) : Option Bool :=
  (m_slices_IndexFunc_api_Chord_api_Chord__gleetop_TopVoicesArePieces_1 a0 a1_c0_0 a1_c1_0).bind fun y1 => some (decide (y1 ≥ 0))
def m_gleetop_TopVoicesArePieces_l4 (i48 : Nat) (i57 : Nat) (x58 : (List Int)) (u61 : (List TTone)) : Option (Flow (List TTone) (Flow (List Int) (Flow Unit Bool))) :=
  (getI x58 (i48 : Int)).bind fun e66 => (appM 48 u61 [(TTone.mk e66 (TFraction.mk 1 1) ByteArray.empty false)]).bind fun q68 => some (.nxt q68)
def m_gleetop_TopVoicesArePieces_l3 (y9 : ((List (List Int)) × Int × Bool × Int)) (u28 : (List TBar)) (y35 : ((List TFraction) × Int)) (i40 : Nat) (i48 : Nat) (x49 : TRange) (u52 : (List Int)) : Option (Flow (List Int) (Flow Unit Bool)) :=
  (rangeM (m_gleetop_TopVoicesArePieces_l4 i48) 0 y9.1 []).bind fun f64 => Flow.fin f64 fun u61 => (getI y35.1 (i40 : Int)).bind fun e71 => (m_piece_Sounds u28 u61 e71).bind fun y72 => (ifB (y72.2.2 != 0) (some (.inl true)) (ifB (!y72.2.1) (some (.inl true)) ((getI y9.1 (i40 : Int)).bind fun e76 => (getI e76 (i48 : Int)).bind fun e77 => some (.inl (y72.1 != e77)))) : Option (Bool ⊕ (Flow (List Int) (Flow Unit Bool)))).bind fun k75 => Sum.fin k75 fun u73 => ifB u73 (some (.ret (.ret false))) ((appM 8 u52 [y72.1]).bind fun q79 => some (.nxt q79))
def m_gleetop_TopVoicesArePieces_l2 (y3 : ((List TChord) × Int)) (y5 : ((List TRange) × Int)) (y9 : ((List (List Int)) × Int × Bool × Int)) (u28 : (List TBar)) (y35 : ((List TFraction) × Int)) (i40 : Nat) (x41 : TChord) (u43 : Unit) : Option (Flow Unit Bool) :=
  (rangeM (m_gleetop_TopVoicesArePieces_l3 y9 u28 y35 i40) 0 y5.1 []).bind fun f55 => Flow.fin f55 fun u52 => (m_chord_Of u52).bind fun y82 => (ifB (y82.2 != 0) (some (.inl true)) ((m_slices_ContainsFunc_api_Chord_api_Chord__gleetop_TopVoicesArePieces_1 y82.1 y3.1 (i40 : Int)).bind fun y87 => some (.inl (!y87))) : Option (Bool ⊕ (Flow Unit Bool))).bind fun k86 => Sum.fin k86 fun u84 => ifB u84 (some (.ret false)) (some (.nxt ()))
def m_gleetop_TopVoicesArePieces_l1  (i25 : Nat) (x26 : TBar) (u28 : (List TBar)) : Option (Flow (List TBar) Bool) :=
  (getI u28 (i25 : Int)).bind fun e33 => some (.nxt (u28.set ((i25 : Int).toNat) (TBar.mk 4 4 0 0 false)))
def m_gleetop_TopVoicesArePieces_l8 (i129 : Nat) (i138 : Nat) (x139 : (List Int)) (u142 : (List TTone)) : Option (Flow (List TTone) (Flow (List Int) (Flow Unit Bool))) :=
  (getI x139 (i129 : Int)).bind fun e147 => (appM 48 u142 [(TTone.mk e147 (TFraction.mk 1 1) ByteArray.empty false)]).bind fun q149 => some (.nxt q149)
def m_gleetop_TopVoicesArePieces_l7 (y9 : ((List (List Int)) × Int × Bool × Int)) (u109 : (List TBar)) (y116 : ((List TFraction) × Int)) (i121 : Nat) (i129 : Nat) (x130 : TRange) (u133 : (List Int)) : Option (Flow (List Int) (Flow Unit Bool)) :=
  (rangeM (m_gleetop_TopVoicesArePieces_l8 i129) 0 y9.1 []).bind fun f145 => Flow.fin f145 fun u142 => (getI y116.1 (i121 : Int)).bind fun e152 => (m_piece_Sounds u109 u142 e152).bind fun y153 => (ifB (y153.2.2 != 0) (some (.inl true)) (ifB (!y153.2.1) (some (.inl true)) ((getI y9.1 (i121 : Int)).bind fun e157 => (getI e157 (i129 : Int)).bind fun e158 => some (.inl (y153.1 != e158)))) : Option (Bool ⊕ (Flow (List Int) (Flow Unit Bool)))).bind fun k156 => Sum.fin k156 fun u154 => ifB u154 (some (.ret (.ret false))) ((appM 8 u133 [y153.1]).bind fun q160 => some (.nxt q160))
def m_gleetop_TopVoicesArePieces_l6 (y3 : ((List TChord) × Int)) (y5 : ((List TRange) × Int)) (y9 : ((List (List Int)) × Int × Bool × Int)) (u109 : (List TBar)) (y116 : ((List TFraction) × Int)) (i121 : Nat) (x122 : TChord) (u124 : Unit) : Option (Flow Unit Bool) :=
  (rangeM (m_gleetop_TopVoicesArePieces_l7 y9 u109 y116 i121) 0 y5.1 []).bind fun f136 => Flow.fin f136 fun u133 => (m_chord_Of u133).bind fun y163 => (ifB (y163.2 != 0) (some (.inl true)) ((m_slices_ContainsFunc_api_Chord_api_Chord__gleetop_TopVoicesArePieces_1 y163.1 y3.1 (i121 : Int)).bind fun y168 => some (.inl (!y168))) : Option (Bool ⊕ (Flow Unit Bool))).bind fun k167 => Sum.fin k167 fun u165 => ifB u165 (some (.ret false)) (some (.nxt ()))
def m_gleetop_TopVoicesArePieces_l5  (i106 : Nat) (x107 : TBar) (u109 : (List TBar)) : Option (Flow (List TBar) Bool) :=
  (getI u109 (i106 : Int)).bind fun e114 => some (.nxt (u109.set ((i106 : Int).toNat) (TBar.mk 4 4 0 0 false)))
def m_gleetop_TopVoicesArePieces (a0 : (List Int)) : Option Bool :=
  (m_gleemake_Stream_Range a0 0 1 3).bind fun y2 => (m_gleemake_Stream_Chords a0 y2.2 y2.1).bind fun y3 => (m_gleemake_Stream_Ranges a0 y3.2).bind fun y5 => (m_gleemake_Stream_Range a0 y5.2 4 12).bind fun y8 => (m_chord_Best y3.1 y5.1 y8.1).bind fun y9 => (ifB (y9.2.2.2 != 0) (some (.inl true)) (some (.inl (!y9.2.2.1))) : Option (Bool ⊕ Bool)).bind fun k14 => Sum.fin k14 fun u12 => ifB u12 (((m_gleeref2_ChordsFault y3.1 12).bind fun y18 => ifB (y18 != 0) (ifB ((y9.2.2.2 != 0) == true) (m_gleetop_h10facts.bind fun y19 => some (.inl y19)) (some (.inl false))) ((m_gleeref2_RangesFault y5.1).bind fun y20 => ifB (y20 != 0) (ifB ((y9.2.2.2 != 0) == true) (m_gleetop_h10facts.bind fun y21 => some (.inl y21)) (some (.inl false))) (ifB ((y9.2.2.2 != 0) == (y9.2.2.2 == 12)) (m_gleetop_h10facts.bind fun y22 => some (.inl y22)) (some (.inl false)))) : Option (Bool ⊕ Bool)).bind fun k17 => Sum.fin k17 fun u15 => some u15) ((makeM 40 ((TBar.mk 0 0 0 0 false) : TBar) (y3.1.length : Int)).bind fun q23 => (rangeM m_gleetop_TopVoicesArePieces_l1 0 q23 q23).bind fun f31 => Flow.fin f31 fun u28 => (m_piece_Begins u28).bind fun y35 => (ifB (y35.2 != 0) (some (.inl true)) (ifB ((y35.1.length : Int) != (y3.1.length : Int)) (some (.inl true)) (some (.inl ((y9.1.length : Int) != (y3.1.length : Int))))) : Option (Bool ⊕ Bool)).bind fun k39 => Sum.fin k39 fun u37 => ifB u37 (some false) ((rangeM (m_gleetop_TopVoicesArePieces_l2 y3 y5 y9 u28 y35) 0 y3.1 ()).bind fun f46 => Flow.fin f46 fun u43 => m_gleetop_h10facts.bind fun y88 => some y88))
end
end Go.G
