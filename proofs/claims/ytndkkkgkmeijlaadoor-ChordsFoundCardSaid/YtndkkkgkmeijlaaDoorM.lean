/- The models. Written by program. -/
import Derived.Test.YtndkkkgkmeijlaaDoorXMH
namespace Go.G
open Go Go.J
noncomputable section
structure Tgleemake_Stream where
  L : (List Int)
  at_ : Int
  deriving DecidableEq, Inhabited
structure TChord where
  Root : Int
  Kind : Int
  Turn : Int
  deriving DecidableEq, Inhabited
def m_gleemake_Below (a0 : Int) (a1 : Int) : Option Int :=
  ifB (decide (a1 < 1)) (some 0) ((remM a0 a1).bind fun z1 => ifB (decide (z1 < 0)) (some (w64 (z1 + a1))) (some z1))
def m_gleemake_Stream_Next (a0_0 : (List Int)) (a0_1 : Int) (a1 : Int) : Option (Int × Int) :=
  ifB ((a0_0.length : Int) == 0) ((m_gleemake_Below (w64 ((w64 (a0_1 + 1)) * 7919)) a1).bind fun y1 => some (y1, w64 (a0_1 + 1))) ((remM (w64 ((w64 (a0_1 + 1)) - 1)) (a0_0.length : Int)).bind fun z2 => (quoM (w64 ((w64 (a0_1 + 1)) - 1)) (a0_0.length : Int)).bind fun z3 => (getI a0_0 z2).bind fun e4 => (m_gleemake_Below e4 1073741824).bind fun y5 => (m_gleemake_Below (w64 (y5 + (w64 (z3 * (w64 (7919 + z2)))))) a1).bind fun y6 => some (y6, w64 (a0_1 + 1)))
def m_gleemake_Stream_Range (a0_0 : (List Int)) (a0_1 : Int) (a1 : Int) (a2 : Int) : Option (Int × Int) :=
  ifB (decide (a2 < a1)) (some (a1, a0_1)) ((m_gleemake_Stream_Next a0_0 a0_1 (w64 ((w64 (a2 - a1)) + 1))).bind fun y1 => some (w64 (a1 + y1.1), y1.2))
def m_gleeref2_kindTones (a0 : Int) : Option (List Int) :=
  (getI [[], [0, 4, 7], [0, 3, 7], [0, 3, 6], [0, 4, 8], [0, 4, 7, 10], [0, 4, 7, 11], [0, 3, 7, 10]] a0).bind fun e12 => some e12
def m_gleeref2_TonesOf_l1 (a0 : TChord) (i4 : Nat) (x5 : Int) (u8 : (List Int)) : Option (Flow (List Int) (List Int)) :=
  (appM 8 u8 [(w64 (a0.Root + x5)).tmod 12]).bind fun q14 => some (.nxt q14)
def m_gleeref2_TonesOf (a0 : TChord) : Option (List Int) :=
  (m_gleeref2_kindTones a0.Kind).bind fun y2 => (rangeM (m_gleeref2_TonesOf_l1 a0) 0 y2 []).bind fun f11 => Flow.fin f11 fun u8 => (sliceI u8 a0.Turn (u8.length : Int)).bind fun q17 => (sliceI u8 0 a0.Turn).bind fun q18 => (appM 8 q17 q18).bind fun q19 => some q19
def m_gleemake_Stream_Flip (a0_0 : (List Int)) (a0_1 : Int) (a1 : Int) : Option (Bool × Int) :=
  (m_gleemake_Stream_Next a0_0 a0_1 a1).bind fun y1 => some (y1.1 == 0, y1.2)
def m_gleemake_Stream_Pick (a0_0 : (List Int)) (a0_1 : Int) (a1 : (List Int)) : Option (Int × Int) :=
  (m_gleemake_Stream_Next a0_0 a0_1 (a1.length : Int)).bind fun y1 => (getI a1 y1.1).bind fun e2 => some (e2, y1.2)
def m_gleemake_Stream_Odd (a0_0 : (List Int)) (a0_1 : Int) (a1 : Int) (a2 : Int) : Option (Int × Int) :=
  (m_gleemake_Stream_Flip a0_0 a0_1 12).bind fun y1 => ifB y1.1 ((m_gleemake_Stream_Pick a0_0 y1.2 [w64 (a1 - 1), w64 (a2 + 1), a1, a2, (-1099511627776), 1099511627776]).bind fun y3 => some (y3.1, y3.2)) ((m_gleemake_Stream_Range a0_0 y1.2 a1 a2).bind fun y4 => some (y4.1, y4.2))
def m_gleemake_Stream_Notes_l1 (a0_0 : (List Int)) (i6 : Nat) (x7 : Int) (u10 : (Int × (List Int))) : Option (Flow (Int × (List Int)) ((List Int) × Int)) :=
  (m_gleemake_Stream_Flip a0_0 u10.1 12).bind fun y15 => ifB (!y15.1) ((m_gleemake_Stream_Range a0_0 y15.2 0 3).bind fun y16 => (appM 8 u10.2 [w64 ((w64 (36 + x7)) + (w64 (12 * y16.1)))]).bind fun q18 => some (.nxt (y16.2, q18))) (some (.nxt (y15.2, u10.2)))
def m_gleemake_Stream_Notes (a0_0 : (List Int)) (a0_1 : Int) : Option ((List Int) × Int) :=
  (m_gleemake_Stream_Range a0_0 a0_1 0 11).bind fun y1 => (m_gleemake_Stream_Range a0_0 y1.2 1 7).bind fun y2 => (m_gleeref2_TonesOf (TChord.mk y1.1 y2.1 0)).bind fun y4 => (rangeM (m_gleemake_Stream_Notes_l1 a0_0) 0 y4 (y2.2, [])).bind fun f13 => Flow.fin f13 fun u10 => (m_gleemake_Stream_Flip a0_0 u10.1 4).bind fun y21 => (ifB y21.1 ((appM 8 u10.2 [w64 (24 + y1.1)]).bind fun q27 => some (.inl q27)) (some (.inl u10.2)) : Option ((List Int) ⊕ ((List Int) × Int))).bind fun k25 => Sum.fin k25 fun u22 => (ifB (decide ((u22.length : Int) > 0)) ((m_gleemake_Stream_Flip a0_0 y21.2 10).bind fun y32 => some (.inl (y32.1, y32.2))) (some (.inl (false, y21.2))) : Option ((Bool × Int) ⊕ ((List Int) × Int))).bind fun k31 => Sum.fin k31 fun u29 => ifB u29.1 ((m_gleemake_Stream_Next a0_0 u29.2 (u22.length : Int)).bind fun y33 => (m_gleemake_Stream_Odd a0_0 y33.2 0 127).bind fun y34 => (getI u22 y33.1).bind fun e35 => some ((u22.set y33.1.toNat y34.1), y34.2)) (some (u22, u29.2))
def m_gleemake_Stream_AChord (a0_0 : (List Int)) (a0_1 : Int) : Option (TChord × Int) :=
  (m_gleemake_Stream_Flip a0_0 a0_1 40).bind fun y2 => ifB y2.1 ((m_gleemake_Stream_Odd a0_0 y2.2 0 11).bind fun y3 => (m_gleemake_Stream_Odd a0_0 y3.2 1 7).bind fun y4 => (m_gleemake_Stream_Odd a0_0 y4.2 0 3).bind fun y5 => some ((TChord.mk y3.1 y4.1 y5.1), y5.2)) ((m_gleemake_Stream_Range a0_0 y2.2 0 11).bind fun y6 => (m_gleemake_Stream_Range a0_0 y6.2 1 7).bind fun y7 => (m_gleemake_Stream_Pick a0_0 y7.2 [0, 0, 0, 1, 2]).bind fun y9 => some ((TChord.mk y6.1 y7.1 y9.1), y9.2))
def m_gleemake_Stream_Chords_l1 (a0_0 : (List Int)) (i1 : Nat) (x2 : Nat) (u5 : (Int × (List TChord))) : Option (Flow (Int × (List TChord)) ((List TChord) × Int)) :=
  (m_gleemake_Stream_AChord a0_0 u5.1).bind fun y10 => (m_gleemake_Stream_Flip a0_0 y10.2 2).bind fun y12 => (ifB y12.1 ((m_gleemake_Stream_Pick a0_0 y12.2 [0, 5, 7]).bind fun y17 => some (.inl (y17.2, y17.1, 1, 0))) (some (.inl (y12.2, y10.1.Root, y10.1.Kind, y10.1.Turn))) : Option ((Int × Int × Int × Int) ⊕ (Flow (Int × (List TChord)) ((List TChord) × Int)))).bind fun k15 => Sum.fin k15 fun u13 => (appM 24 u5.2 [(TChord.mk u13.2.1 u13.2.2.1 u13.2.2.2)]).bind fun q19 => some (.nxt (u13.1, q19))
def m_gleemake_Stream_Chords (a0_0 : (List Int)) (a0_1 : Int) (a1 : Int) : Option ((List TChord) × Int) :=
  (rangeI a1).bind fun L22 => (rangeM (m_gleemake_Stream_Chords_l1 a0_0) 0 L22 (a0_1, [])).bind fun f8 => Flow.fin f8 fun u5 => some (u5.2, u5.1)
def m_kit_Outside (a0 : Int) (a1 : Int) (a2 : Int) : Option Bool :=
  ifB (decide (a0 < a1)) (some true) (some (decide (a0 > a2)))
def m_chord_notesFault_1 (a0 : Int) : Option Bool :=
  (m_kit_Outside a0 0 127).bind fun y1 => some y1
def m_slices_IndexFunc_int_int__chord_notesFault_1_l1  (i1 : Nat) (x2 : Int) (u4 : Unit) : Option (Flow Unit Int) :=
  (m_chord_notesFault_1 x2).bind fun y8 => ifB y8 (some (.ret (i1 : Int))) (some (.nxt ()))
def m_slices_IndexFunc_int_int__chord_notesFault_1 (a0 : (List Int)) : Option Int :=
  (rangeM m_slices_IndexFunc_int_int__chord_notesFault_1_l1 0 a0 ()).bind fun f7 => Flow.fin f7 fun u4 => some (-1)
def m_slices_ContainsFunc_int_int__chord_notesFault_1 (a0 : (List Int)) : Option Bool :=
  (m_slices_IndexFunc_int_int__chord_notesFault_1 a0).bind fun y1 => some (decide (y1 ≥ 0))
def m_chord_notesFault (a0 : (List Int)) (a1 : Int) : Option Int :=
  ifB ((a0.length : Int) == 0) (some 8) (ifB (decide ((a0.length : Int) > a1)) (some 2) ((m_slices_ContainsFunc_int_int__chord_notesFault_1 a0).bind fun y1 => ifB y1 (some 1) (some 0)))
def m_chord_set_l1  (i1 : Nat) (x2 : Int) (u5 : (List Int)) : Option (Flow (List Int) (List Int)) :=
  (appM 8 u5 [x2.tmod 12]).bind fun q11 => some (.nxt q11)
def m_chord_set (a0 : (List Int)) : Option (List Int) :=
  (rangeM m_chord_set_l1 0 a0 []).bind fun f8 => Flow.fin f8 fun u5 => (m_slices_Sort_int_int u5).bind fun y14 => (m_slices_Compact_int_int y14).bind fun y15 => some y15
def m_slices_Min_int_int_l1 (a0 : (List Int)) (u2 : (Int × Int)) : Option (Flow (Int × Int) Int) :=
  ifB (decide (u2.2 < (a0.length : Int))) ((getI a0 u2.2).bind fun e6 => some (.nxt (min u2.1 e6, w64 (u2.2 + 1)))) (some (.brk (u2.1, u2.2)))
def m_slices_Min_int_int (a0 : (List Int)) : Option Int :=
  ifB (decide ((a0.length : Int) < 1)) (none) ((getI a0 0).bind fun e1 => (loopM (m_slices_Min_int_int_l1 a0) (e1, 1)).bind fun f5 => Flow.fin f5 fun u2 => some u2.1)
def m_chord_above (a0 : Int) : Option (List Int) :=
  (getI [[], [0, 4, 7], [0, 3, 7], [0, 3, 6], [0, 4, 8], [0, 4, 7, 10], [0, 4, 7, 11], [0, 3, 7, 10]] a0).bind fun e12 => some e12
def m_chord_tones_l1 (a0 : TChord) (y2 : (List Int)) (i4 : Nat) (x5 : Int) (u8 : (List Int)) : Option (Flow (List Int) (List Int)) :=
  (remM (w64 ((i4 : Int) + a0.Turn)) (y2.length : Int)).bind fun z13 => (getI y2 z13).bind fun e14 => (appM 8 u8 [(w64 (a0.Root + e14)).tmod 12]).bind fun q16 => some (.nxt q16)
def m_chord_tones (a0 : TChord) : Option (List Int) :=
  (m_chord_above a0.Kind).bind fun y2 => (rangeM (m_chord_tones_l1 a0 y2) 0 y2 []).bind fun f11 => Flow.fin f11 fun u8 => some u8
def m_slices_Equal_int_int_l1 (a1 : (List Int)) (i1 : Nat) (x2 : Int) (u4 : Unit) : Option (Flow Unit Bool) :=
  (getI a1 (i1 : Int)).bind fun e8 => ifB (x2 != e8) (some (.ret false)) (some (.nxt ()))
def m_slices_Equal_int_int (a0 : (List Int)) (a1 : (List Int)) : Option Bool :=
  ifB ((a0.length : Int) != (a1.length : Int)) (some false) ((rangeM (m_slices_Equal_int_int_l1 a1) 0 a0 ()).bind fun f7 => Flow.fin f7 fun u4 => some true)
def m_slices_Index_int_int_l1 (a1 : Int) (i1 : Nat) (x2 : Int) (u4 : Unit) : Option (Flow Unit Int) :=
  ifB (a1 == x2) (some (.ret (i1 : Int))) (some (.nxt ()))
def m_slices_Index_int_int (a0 : (List Int)) (a1 : Int) : Option Int :=
  (rangeM (m_slices_Index_int_int_l1 a1) 0 a0 ()).bind fun f7 => Flow.fin f7 fun u4 => some (-1)
def m_chord_Of_l2 (y3 : (List Int)) (y5 : Int) (i6 : Nat) (u15 : (Int × (List TChord))) : Option (Flow (Int × (List TChord)) (Flow (List TChord) ((List TChord) × Int))) :=
  ifB (decide (u15.1 ≤ 7)) ((m_chord_tones (TChord.mk (i6 : Int) u15.1 0)).bind fun y21 => (m_chord_set y21).bind fun y23 => (m_slices_Equal_int_int y23 y3).bind fun y25 => ifB y25 ((m_slices_Index_int_int y21 (y5.tmod 12)).bind fun y26 => (appM 24 u15.2 [(TChord.mk (i6 : Int) u15.1 y26)]).bind fun q28 => some (.nxt (w64 (u15.1 + 1), q28))) (some (.nxt (w64 (u15.1 + 1), u15.2)))) (some (.brk (u15.1, u15.2)))
def m_chord_Of_l1 (y3 : (List Int)) (y5 : Int) (i6 : Nat) (x7 : Nat) (u10 : (List TChord)) : Option (Flow (List TChord) ((List TChord) × Int)) :=
  (loopM (m_chord_Of_l2 y3 y5 i6) (1, u10)).bind fun f18 => Flow.fin f18 fun u15 => some (.nxt u15.2)
def m_chord_Of (a0 : (List Int)) : Option ((List TChord) × Int) :=
  (m_chord_notesFault a0 12).bind fun y1 => ifB (y1 != 0) (some ([], y1)) ((m_chord_set a0).bind fun y3 => (m_slices_Min_int_int a0).bind fun y5 => (rangeI 12).bind fun L32 => (rangeM (m_chord_Of_l1 y3 y5) 0 L32 []).bind fun f13 => Flow.fin f13 fun u10 => some (u10, 0))
def m_chord_isKind (a0 : Int) : Option Bool :=
  (m_kit_Outside a0 1 7).bind fun y1 => some (!y1)
def m_chord_CheckChord (a0 : TChord) : Option Int :=
  (m_kit_Outside a0.Root 0 11).bind fun y2 => ifB y2 (some 1) ((m_chord_isKind a0.Kind).bind fun y3 => ifB (!y3) (some 4) ((m_chord_above a0.Kind).bind fun y4 => (m_kit_Outside a0.Turn 0 (w64 ((y4.length : Int) - 1))).bind fun y6 => ifB y6 (some 1) (some 0)))
def m_chord_checkAll_l1  (i1 : Nat) (x2 : TChord) (u4 : Unit) : Option (Flow Unit Int) :=
  (m_chord_CheckChord x2).bind fun y9 => ifB (y9 != 0) (some (.ret y9)) (some (.nxt ()))
def m_chord_checkAll (a0 : (List TChord)) : Option Int :=
  (rangeM m_chord_checkAll_l1 0 a0 ()).bind fun f7 => Flow.fin f7 fun u4 => some 0
def m_slices_Contains_int_int (a0 : (List Int)) (a1 : Int) : Option Bool :=
  (m_slices_Index_int_int a0 a1).bind fun y1 => some (decide (y1 ≥ 0))
def m_chord_Shared_l1 (a1 : TChord) (i7 : Nat) (x8 : Int) (u10 : Int) : Option (Flow Int (Int × Int)) :=
  (m_chord_tones a1).bind fun y14 => (m_slices_Contains_int_int y14 x8).bind fun y16 => ifB y16 (some (.nxt (w64 (u10 + 1)))) (some (.nxt u10))
def m_chord_Shared (a0 : TChord) (a1 : TChord) : Option (Int × Int) :=
  (m_chord_checkAll [a0, a1]).bind fun y4 => ifB (y4 != 0) (some (0, y4)) ((m_chord_tones a0).bind fun y5 => (rangeM (m_chord_Shared_l1 a1) 0 y5 0).bind fun f13 => Flow.fin f13 fun u10 => some (u10, 0))
def m_chord_Shift (a0 : TChord) (a1 : Int) : Option (TChord × Int) :=
  (m_chord_CheckChord a0).bind fun y3 => ifB (y3 != 0) (some ((TChord.mk 0 0 0), y3)) ((m_kit_Outside a1 (-127) 127).bind fun y4 => ifB y4 (some ((TChord.mk 0 0 0), 1)) (some ((TChord.mk ((w64 (((w64 (a0.Root + a1)).tmod 12) + 12)).tmod 12) a0.Kind a0.Turn), 0)))
def m_chord_rowFault (a0 : (List TChord)) : Option Int :=
  ifB (decide ((a0.length : Int) > 144)) (some 2) ((m_chord_checkAll a0).bind fun y1 => some y1)
def m_chord_Keys_1 (a0 : Int) (a1_0 : (List Int)) (a2_0 : Int) : Option Bool :=
  (m_slices_Contains_int_int a1_0 ((w64 ((w64 (a0 - a2_0)) + 12)).tmod 12)).bind fun y1 => some (!y1)
def m_slices_IndexFunc_int_int__chord_Keys_1_l1 (a1_c0_0 : (List Int)) (a1_c1_0 : Int) (i1 : Nat) (x2 : Int) (u4 : Unit) : Option (Flow Unit Int) :=
  (m_chord_Keys_1 x2 a1_c0_0 a1_c1_0).bind fun y8 => ifB y8 (some (.ret (i1 : Int))) (some (.nxt ()))
def m_slices_IndexFunc_int_int__chord_Keys_1 (a0 : (List Int)) (a1_c0_0 : (List Int)) (a1_c1_0 : Int) : Option Int :=
  (rangeM (m_slices_IndexFunc_int_int__chord_Keys_1_l1 a1_c0_0 a1_c1_0) 0 a0 ()).bind fun f7 => Flow.fin f7 fun u4 => some (-1)
def m_slices_ContainsFunc_int_int__chord_Keys_1 (a0 : (List Int)) (a1_c0_0 : (List Int)) (a1_c1_0 : Int) : Option Bool :=
  (m_slices_IndexFunc_int_int__chord_Keys_1 a0 a1_c0_0 a1_c1_0).bind fun y1 => some (decide (y1 ≥ 0))
def m_chord_Keys_2__chord_Keys_1 (a0 : TChord) (a1_0_c0_0 : (List Int)) (a1_0_c1_0 : Int) : Option Bool :=
  (m_chord_tones a0).bind fun y2 => (m_slices_ContainsFunc_int_int__chord_Keys_1 y2 a1_0_c0_0 a1_0_c1_0).bind fun y4 => some y4
def m_slices_IndexFunc_api_Chord_api_Chord__chord_Keys_1__chord_Keys_2_l1 (a1_c0_0_c0_0 : (List Int)) (a1_c0_0_c1_0 : Int) (i1 : Nat) (x2 : TChord) (u4 : Unit) : Option (Flow Unit Int) :=
  (m_chord_Keys_2__chord_Keys_1 x2 a1_c0_0_c0_0 a1_c0_0_c1_0).bind fun y8 => ifB y8 (some (.ret (i1 : Int))) (some (.nxt ()))
def m_slices_IndexFunc_api_Chord_api_Chord__chord_Keys_1__chord_Keys_2 (a0 : (List TChord)) (a1_c0_0_c0_0 : (List Int)) (a1_c0_0_c1_0 : Int) : Option Int :=
  (rangeM (m_slices_IndexFunc_api_Chord_api_Chord__chord_Keys_1__chord_Keys_2_l1 a1_c0_0_c0_0 a1_c0_0_c1_0) 0 a0 ()).bind fun f7 => Flow.fin f7 fun u4 => some (-1)
def m_slices_ContainsFunc_api_Chord_api_Chord__chord_Keys_1__chord_Keys_2 (a0 : (List TChord)) (a1_c0_0_c0_0 : (List Int)) (a1_c0_0_c1_0 : Int) : Option Bool :=
  (m_slices_IndexFunc_api_Chord_api_Chord__chord_Keys_1__chord_Keys_2 a0 a1_c0_0_c0_0 a1_c0_0_c1_0).bind fun y1 => some (decide (y1 ≥ 0))
def m_chord_Keys_l1 (a0 : (List TChord)) (i5 : Nat) (x6 : Nat) (u9 : (List Int)) : Option (Flow (List Int) ((List Int) × Int)) :=
  (m_slices_ContainsFunc_api_Chord_api_Chord__chord_Keys_1__chord_Keys_2 a0 [0, 2, 4, 5, 7, 9, 11] (i5 : Int)).bind fun y16 => ifB (!y16) ((appM 8 u9 [(i5 : Int)]).bind fun q18 => some (.nxt q18)) (some (.nxt u9))
def m_chord_Keys (a0 : (List TChord)) : Option ((List Int) × Int) :=
  (m_chord_rowFault a0).bind fun y1 => ifB (y1 != 0) (some ([], y1)) ((rangeI 12).bind fun L21 => (rangeM (m_chord_Keys_l1 a0) 0 L21 []).bind fun f12 => Flow.fin f12 fun u9 => some (u9, 0))
def m_gleeref2_in (a0 : Int) (a1 : Int) (a2 : Int) : Option Bool :=
  ifB (decide (a1 ≤ a0)) (some (decide (a0 ≤ a2))) (some false)
def m_gleeref2_NotesFault_l1  (i1 : Nat) (x2 : Int) (u4 : Unit) : Option (Flow Unit Int) :=
  (m_gleeref2_in x2 0 127).bind fun y8 => ifB (!y8) (some (.ret 1)) (some (.nxt ()))
def m_gleeref2_NotesFault (a0 : (List Int)) (a1 : Int) : Option Int :=
  ifB ((a0.length : Int) == 0) (some 8) (ifB (decide ((a0.length : Int) > a1)) (some 2) ((rangeM m_gleeref2_NotesFault_l1 0 a0 ()).bind fun f7 => Flow.fin f7 fun u4 => some 0))
def m_gleeref2_ChordFault (a0 : TChord) : Option Int :=
  (m_gleeref2_in a0.Root 0 11).bind fun y2 => ifB (!y2) (some 1) ((m_gleeref2_in a0.Kind 1 7).bind fun y3 => ifB (!y3) (some 4) ((m_gleeref2_kindTones a0.Kind).bind fun y4 => (m_gleeref2_in a0.Turn 0 (w64 ((y4.length : Int) - 1))).bind fun y6 => ifB (!y6) (some 1) (some 0)))
def m_gleelaw2_errs_l1  (i1 : Nat) (x2 : Int) (u4 : Unit) : Option (Flow Unit Int) :=
  ifB (x2 != 0) (some (.ret x2)) (some (.nxt ()))
def m_gleelaw2_errs (a0 : (List Int)) : Option Int :=
  (rangeM m_gleelaw2_errs_l1 0 a0 ()).bind fun f7 => Flow.fin f7 fun u4 => some 0
def m_gleelaw2_when (a0 : Bool) (a1 : Int) : Option Int :=
  ifB a0 (some a1) (some 0)
def m_gleeref2_ChordsFault_l1  (i1 : Nat) (x2 : TChord) (u4 : Unit) : Option (Flow Unit Int) :=
  (m_gleeref2_ChordFault x2).bind fun y9 => ifB (y9 != 0) (some (.ret y9)) (some (.nxt ()))
def m_gleeref2_ChordsFault (a0 : (List TChord)) (a1 : Int) : Option Int :=
  ifB (decide ((a0.length : Int) > a1)) (some 2) ((rangeM m_gleeref2_ChordsFault_l1 0 a0 ()).bind fun f7 => Flow.fin f7 fun u4 => some 0)
def m_gleeref2_allChords_l3 (i1 : Nat) (u10 : (Int × (List TChord))) (i17 : Nat) (x18 : Int) (u20 : (List TChord)) : Option (Flow (List TChord) (Flow (Int × (List TChord)) (Flow (List TChord) (List TChord)))) :=
  (appM 24 u20 [(TChord.mk (i1 : Int) u10.1 (i17 : Int))]).bind fun q26 => some (.nxt q26)
def m_gleeref2_allChords_l2 (i1 : Nat) (u10 : (Int × (List TChord))) : Option (Flow (Int × (List TChord)) (Flow (List TChord) (List TChord))) :=
  ifB (decide (u10.1 ≤ 7)) ((m_gleeref2_kindTones u10.1).bind fun y15 => (rangeM (m_gleeref2_allChords_l3 i1 u10) 0 y15 u10.2).bind fun f23 => Flow.fin f23 fun u20 => some (.nxt (w64 (u10.1 + 1), u20))) (some (.brk (u10.1, u10.2)))
def m_gleeref2_allChords_l1  (i1 : Nat) (x2 : Nat) (u5 : (List TChord)) : Option (Flow (List TChord) (List TChord)) :=
  (loopM (m_gleeref2_allChords_l2 i1) (1, u5)).bind fun f13 => Flow.fin f13 fun u10 => some (.nxt u10.2)
def m_gleeref2_allChords  : Option (List TChord) :=
  (rangeI 12).bind fun L31 => (rangeM m_gleeref2_allChords_l1 0 L31 []).bind fun f8 => Flow.fin f8 fun u5 => some u5
def m_gleeref2_classes_l1  (i1 : Nat) (x2 : Int) (u5 : (List Int)) : Option (Flow (List Int) (List Int)) :=
  (appM 8 u5 [x2.tmod 12]).bind fun q11 => some (.nxt q11)
def m_gleeref2_classes (a0 : (List Int)) : Option (List Int) :=
  (rangeM m_gleeref2_classes_l1 0 a0 []).bind fun f8 => Flow.fin f8 fun u5 => (m_slices_Sort_int_int u5).bind fun y14 => (m_slices_Compact_int_int y14).bind fun y15 => some y15
def m_gleeref2_ChordsOf_1 (a0 : TChord) (a1_0 : (List Int)) : Option Bool :=
  (m_gleeref2_TonesOf a0).bind fun y2 => ((m_gleeref2_classes y2).bind fun y7 => (m_gleeref2_classes a1_0).bind fun y9 => (m_slices_Equal_int_int y7 y9).bind fun y11 => ifB (!y11) (some (.inl true)) ((getI y2 0).bind fun e12 => (m_slices_Min_int_int a1_0).bind fun y13 => some (.inl (e12 != (y13.tmod 12)))) : Option (Bool ⊕ Bool)).bind fun k6 => Sum.fin k6 fun u4 => some u4
def m_slices_IndexFunc_api_Chord_api_Chord__gleeref2_ChordsOf_1_l1 (a1_c0_0 : (List Int)) (i1 : Nat) (x2 : TChord) (u4 : Unit) : Option (Flow Unit Int) :=
  (m_gleeref2_ChordsOf_1 x2 a1_c0_0).bind fun y8 => ifB y8 (some (.ret (i1 : Int))) (some (.nxt ()))
def m_slices_IndexFunc_api_Chord_api_Chord__gleeref2_ChordsOf_1 (a0 : (List TChord)) (a1_c0_0 : (List Int)) : Option Int :=
  (rangeM (m_slices_IndexFunc_api_Chord_api_Chord__gleeref2_ChordsOf_1_l1 a1_c0_0) 0 a0 ()).bind fun f7 => Flow.fin f7 fun u4 => some (-1)
def m_slices_DeleteFunc_api_Chord_api_Chord__gleeref2_ChordsOf_1_l1 (a1_c0_0 : (List Int)) (u2 : (Int × Int × (List TChord))) : Option (Flow (Int × Int × (List TChord)) (List TChord)) :=
  ifB (decide (u2.2.1 < (u2.2.2.length : Int))) ((getI u2.2.2 u2.2.1).bind fun e6 => (m_gleeref2_ChordsOf_1 e6 a1_c0_0).bind fun y8 => ifB (!y8) ((getI u2.2.2 u2.1).bind fun e9 => some (.nxt (w64 (u2.1 + 1), w64 (u2.2.1 + 1), (u2.2.2.set u2.1.toNat e6)))) (some (.nxt (u2.1, w64 (u2.2.1 + 1), u2.2.2)))) (some (.brk (u2.1, u2.2.1, u2.2.2)))
def m_slices_DeleteFunc_api_Chord_api_Chord__gleeref2_ChordsOf_1 (a0 : (List TChord)) (a1_c0_0 : (List Int)) : Option (List TChord) :=
  (m_slices_IndexFunc_api_Chord_api_Chord__gleeref2_ChordsOf_1 a0 a1_c0_0).bind fun y1 => ifB (y1 == (-1)) (some a0) ((loopM (m_slices_DeleteFunc_api_Chord_api_Chord__gleeref2_ChordsOf_1_l1 a1_c0_0) (y1, w64 (y1 + 1), a0)).bind fun f5 => Flow.fin f5 fun u2 => (sliceI u2.2.2 u2.1 (u2.2.2.length : Int)).bind fun q10 => (sliceI (clearM (TChord.mk 0 0 0) u2.2.2 u2.1) 0 u2.1).bind fun q11 => some q11)
def m_gleeref2_ChordsOf (a0 : (List Int)) : Option (List TChord) :=
  m_gleeref2_allChords.bind fun y2 => (m_slices_DeleteFunc_api_Chord_api_Chord__gleeref2_ChordsOf_1 y2 a0).bind fun y4 => some y4
def m_gleeref2_SharedOf_l1 (a1 : TChord) (i5 : Nat) (x6 : Int) (u8 : Int) : Option (Flow Int Int) :=
  (m_gleeref2_TonesOf a1).bind fun y12 => (m_slices_Contains_int_int y12 x6).bind fun y14 => ifB y14 (some (.nxt (w64 (u8 + 1)))) (some (.nxt u8))
def m_gleeref2_SharedOf (a0 : TChord) (a1 : TChord) : Option Int :=
  (m_gleeref2_TonesOf a0).bind fun y3 => (rangeM (m_gleeref2_SharedOf_l1 a1) 0 y3 0).bind fun f11 => Flow.fin f11 fun u8 => some u8
def m_gleeref2_ShiftedChord (a0 : TChord) (a1 : Int) : Option TChord :=
  some (TChord.mk ((w64 (((w64 (a0.Root + a1)).tmod 12) + 12)).tmod 12) a0.Kind a0.Turn)
def m_gleeref2_KeysOf_1_1 (a0 : Int) (a1_0 : (List Int)) : Option Bool :=
  (m_slices_Contains_int_int a1_0 a0).bind fun y1 => some (!y1)
def m_slices_IndexFunc_int_int__gleeref2_KeysOf_1_1_l1 (a1_c0_0 : (List Int)) (i1 : Nat) (x2 : Int) (u4 : Unit) : Option (Flow Unit Int) :=
  (m_gleeref2_KeysOf_1_1 x2 a1_c0_0).bind fun y8 => ifB y8 (some (.ret (i1 : Int))) (some (.nxt ()))
def m_slices_IndexFunc_int_int__gleeref2_KeysOf_1_1 (a0 : (List Int)) (a1_c0_0 : (List Int)) : Option Int :=
  (rangeM (m_slices_IndexFunc_int_int__gleeref2_KeysOf_1_1_l1 a1_c0_0) 0 a0 ()).bind fun f7 => Flow.fin f7 fun u4 => some (-1)
def m_slices_ContainsFunc_int_int__gleeref2_KeysOf_1_1 (a0 : (List Int)) (a1_c0_0 : (List Int)) : Option Bool :=
  (m_slices_IndexFunc_int_int__gleeref2_KeysOf_1_1 a0 a1_c0_0).bind fun y1 => some (decide (y1 ≥ 0))
def m_gleeref2_KeysOf_1 (a0 : TChord) (a1_0 : (List Int)) : Option Bool :=
  (m_gleeref2_TonesOf a0).bind fun y2 => (m_slices_ContainsFunc_int_int__gleeref2_KeysOf_1_1 y2 a1_0).bind fun y4 => some y4
def m_slices_IndexFunc_api_Chord_api_Chord__gleeref2_KeysOf_1_l1 (a1_c0_0 : (List Int)) (i1 : Nat) (x2 : TChord) (u4 : Unit) : Option (Flow Unit Int) :=
  (m_gleeref2_KeysOf_1 x2 a1_c0_0).bind fun y8 => ifB y8 (some (.ret (i1 : Int))) (some (.nxt ()))
def m_slices_IndexFunc_api_Chord_api_Chord__gleeref2_KeysOf_1 (a0 : (List TChord)) (a1_c0_0 : (List Int)) : Option Int :=
  (rangeM (m_slices_IndexFunc_api_Chord_api_Chord__gleeref2_KeysOf_1_l1 a1_c0_0) 0 a0 ()).bind fun f7 => Flow.fin f7 fun u4 => some (-1)
def m_slices_ContainsFunc_api_Chord_api_Chord__gleeref2_KeysOf_1 (a0 : (List TChord)) (a1_c0_0 : (List Int)) : Option Bool :=
  (m_slices_IndexFunc_api_Chord_api_Chord__gleeref2_KeysOf_1 a0 a1_c0_0).bind fun y1 => some (decide (y1 ≥ 0))
def m_gleeref2_KeysOf_l2 (i1 : Nat) (i13 : Nat) (x14 : Int) (u16 : (List Int)) : Option (Flow (List Int) (Flow (List Int) (List Int))) :=
  (appM 8 u16 [(w64 ((i1 : Int) + x14)).tmod 12]).bind fun q22 => some (.nxt q22)
def m_gleeref2_KeysOf_l1 (a0 : (List TChord)) (i1 : Nat) (x2 : Nat) (u5 : (List Int)) : Option (Flow (List Int) (List Int)) :=
  (rangeM (m_gleeref2_KeysOf_l2 i1) 0 [0, 2, 4, 5, 7, 9, 11] []).bind fun f19 => Flow.fin f19 fun u16 => (m_slices_ContainsFunc_api_Chord_api_Chord__gleeref2_KeysOf_1 a0 u16).bind fun y25 => ifB (!y25) ((appM 8 u5 [(i1 : Int)]).bind fun q27 => some (.nxt q27)) (some (.nxt u5))
def m_gleeref2_KeysOf (a0 : (List TChord)) : Option (List Int) :=
  (rangeI 12).bind fun L30 => (rangeM (m_gleeref2_KeysOf_l1 a0) 0 L30 []).bind fun f8 => Flow.fin f8 fun u5 => some u5
def m_slices_Equal_api_Chord_api_Chord_l1 (a1 : (List TChord)) (i1 : Nat) (x2 : TChord) (u4 : Unit) : Option (Flow Unit Bool) :=
  (getI a1 (i1 : Int)).bind fun e8 => ifB (!(decide (x2 = e8))) (some (.ret false)) (some (.nxt ()))
def m_slices_Equal_api_Chord_api_Chord (a0 : (List TChord)) (a1 : (List TChord)) : Option Bool :=
  ifB ((a0.length : Int) != (a1.length : Int)) (some false) ((rangeM (m_slices_Equal_api_Chord_api_Chord_l1 a1) 0 a0 ()).bind fun f7 => Flow.fin f7 fun u4 => some true)
def m_chord_rootWords  : Option (List ByteArray) :=
  some [(ByteArray.mk [99].toArray), (ByteArray.mk [99, 35].toArray), (ByteArray.mk [100].toArray), (ByteArray.mk [100, 35].toArray), (ByteArray.mk [101].toArray), (ByteArray.mk [102].toArray), (ByteArray.mk [102, 35].toArray), (ByteArray.mk [103].toArray), (ByteArray.mk [103, 35].toArray), (ByteArray.mk [97].toArray), (ByteArray.mk [97, 35].toArray), (ByteArray.mk [98].toArray)]
def m_chord_kindWords  : Option (List ByteArray) :=
  some [ByteArray.empty, (ByteArray.mk [109, 97, 106].toArray), (ByteArray.mk [109, 105, 110].toArray), (ByteArray.mk [100, 105, 109].toArray), (ByteArray.mk [97, 117, 103].toArray), (ByteArray.mk [55].toArray), (ByteArray.mk [109, 97, 106, 55].toArray), (ByteArray.mk [109, 105, 110, 55].toArray)]
def m_chord_Name (a0 : TChord) : Option (ByteArray × Int) :=
  (m_chord_CheckChord a0).bind fun y2 => ifB (y2 != 0) (some (ByteArray.empty, y2)) ((m_chord_rootWords.bind fun y6 => (getI y6 a0.Root).bind fun e8 => (catM e8 (ByteArray.mk [32].toArray)).bind fun c9 => m_chord_kindWords.bind fun y10 => (getI y10 a0.Kind).bind fun e12 => (catM c9 e12).bind fun c13 => some (.inl c13) : Option (ByteArray ⊕ (ByteArray × Int))).bind fun k5 => Sum.fin k5 fun u3 => ifB (decide (a0.Turn > 0)) ((m_strconv_Itoa a0.Turn).bind fun y18 => (catM (ByteArray.mk [47].toArray) y18).bind fun c19 => (catM u3 c19).bind fun c20 => some (c20, 0)) (some (u3, 0)))
def m_gleelaw2_sounded  : Option Bool :=
  (m_chord_Name (TChord.mk 1 2 1)).bind fun y1 => ifB (y1.2 == 0) (some (y1.1.toList == (ByteArray.mk [99, 35, 32, 109, 105, 110, 47, 49].toArray).toList)) (some false)
def m_gleelaw2_ChordsFound (a0 : (List Int)) : Option Bool :=
  (m_gleemake_Stream_Notes a0 0).bind fun y2 => (m_gleemake_Stream_AChord a0 y2.2).bind fun y4 => (m_gleemake_Stream_AChord a0 y4.2).bind fun y5 => (m_gleemake_Stream_Pick a0 y5.2 [0, 1, 7, (-5), 127, (-127), 128, (-128)]).bind fun y7 => (m_gleemake_Stream_Range a0 y7.2 0 4).bind fun y8 => (m_gleemake_Stream_Chords a0 y8.2 y8.1).bind fun y9 => (m_chord_Of y2.1).bind fun y13 => (m_chord_Shared y4.1 y5.1).bind fun y15 => (m_chord_Shift y4.1 y7.1).bind fun y16 => (m_chord_Keys y9.1).bind fun y18 => ((m_gleeref2_NotesFault y2.1 12).bind fun y23 => (m_gleeref2_ChordFault y4.1).bind fun y24 => (m_gleeref2_ChordFault y5.1).bind fun y25 => (m_gleelaw2_errs [y24, y25]).bind fun y27 => (m_gleeref2_ChordFault y4.1).bind fun y28 => ifB (decide (y7.1 < (-127))) ((m_gleelaw2_when true 1).bind fun y29 => (m_gleelaw2_errs [y28, y29]).bind fun y31 => (m_gleeref2_ChordsFault y9.1 144).bind fun y32 => some (.inl (y23, y27, y31, y32))) ((m_gleelaw2_when (decide (y7.1 > 127)) 1).bind fun y33 => (m_gleelaw2_errs [y28, y33]).bind fun y35 => (m_gleeref2_ChordsFault y9.1 144).bind fun y36 => some (.inl (y23, y27, y35, y36))) : Option ((Int × Int × Int × Int) ⊕ Bool)).bind fun k22 => Sum.fin k22 fun u20 => (ifB (u20.1 == 0) ((m_gleeref2_ChordsOf y2.1).bind fun y44 => some (.inl y44)) (some (.inl [])) : Option ((List TChord) ⊕ Bool)).bind fun k43 => Sum.fin k43 fun u40 => (ifB (u20.2.1 == 0) ((m_gleeref2_SharedOf y4.1 y5.1).bind fun y51 => some (.inl y51)) (some (.inl 0)) : Option (Int ⊕ Bool)).bind fun k50 => Sum.fin k50 fun u48 => (ifB (u20.2.2.1 == 0) ((m_gleeref2_ShiftedChord y4.1 y7.1).bind fun y55 => some (.inl (y55.Root, y55.Kind, y55.Turn))) (some (.inl (0, 0, 0))) : Option ((Int × Int × Int) ⊕ Bool)).bind fun k54 => Sum.fin k54 fun u52 => (ifB (u20.2.2.2 == 0) ((m_gleeref2_KeysOf y9.1).bind fun y60 => some (.inl y60)) (some (.inl [])) : Option ((List Int) ⊕ Bool)).bind fun k59 => Sum.fin k59 fun u56 => ifB (y13.2 == u20.1) ((m_slices_Equal_api_Chord_api_Chord y13.1 u40).bind fun y63 => ifB y63 (ifB (y15.2 == u20.2.1) (ifB (y15.1 == u48) (ifB (y16.2 == u20.2.2.1) (ifB (decide (y16.1 = (TChord.mk u52.1 u52.2.1 u52.2.2))) (ifB (y18.2 == u20.2.2.2) ((m_slices_Equal_int_int y18.1 u56).bind fun y64 => ifB y64 (m_gleelaw2_sounded.bind fun y65 => some y65) (some false)) (some false)) (some false)) (some false)) (some false)) (some false)) (some false)) (some false)
end
end Go.G
