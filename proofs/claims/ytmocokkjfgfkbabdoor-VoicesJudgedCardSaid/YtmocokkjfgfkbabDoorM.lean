/- The models. Written by program. -/
import Derived.Test.YtmocokkjfgfkbabDoorXM
namespace Go.G
open Go Go.J
set_option linter.unusedVariables false
noncomputable section
structure Tgleemake_Stream where
  L : (List Int)
  at_ : Int
  deriving DecidableEq, Inhabited
structure TChord where
  Root : Int
  Kind : Int
  Turn : Int
  deriving DecidableEq, Inhabited
structure TFault where
  At : Int
  Kind : Int
  Low : Int
  High : Int
  deriving DecidableEq, Inhabited
def m_gleemake_Below (a0 : Int) (a1 : Int) : Option Int :=
  ifB (decide (a1 < 1)) (some 0) ((remM a0 a1).bind fun z1 => ifB (decide (z1 < 0)) (some (w64 (z1 + a1))) (some z1))
def m_gleemake_Stream_Next (a0_0 : (List Int)) (a0_1 : Int) (a1 : Int) : Option (Int × Int) :=
  ifB ((a0_0.length : Int) == 0) ((m_gleemake_Below (w64 ((w64 (a0_1 + 1)) * 7919)) a1).bind fun y1 => some (y1, w64 (a0_1 + 1))) ((remM (w64 ((w64 (a0_1 + 1)) - 1)) (a0_0.length : Int)).bind fun z2 => (quoM (w64 ((w64 (a0_1 + 1)) - 1)) (a0_0.length : Int)).bind fun z3 => (getI a0_0 z2).bind fun e4 => (m_gleemake_Below e4 1073741824).bind fun y5 => (m_gleemake_Below (w64 (y5 + (w64 (z3 * (w64 (7919 + z2)))))) a1).bind fun y6 => some (y6, w64 (a0_1 + 1)))
def m_gleemake_Stream_Range (a0_0 : (List Int)) (a0_1 : Int) (a1 : Int) (a2 : Int) : Option (Int × Int) :=
  ifB (decide (a2 < a1)) (some (a1, a0_1)) ((m_gleemake_Stream_Next a0_0 a0_1 (w64 ((w64 (a2 - a1)) + 1))).bind fun y1 => some (w64 (a1 + y1.1), y1.2))
def m_slices_Clone_int_int (a0 : (List Int)) : Option (List Int) :=
  (appM 8 ([] : List Int) a0).bind fun q3 => some q3
def m_gleemake_Stream_Pick (a0_0 : (List Int)) (a0_1 : Int) (a1 : (List Int)) : Option (Int × Int) :=
  (m_gleemake_Stream_Next a0_0 a0_1 (a1.length : Int)).bind fun y1 => (getI a1 y1.1).bind fun e2 => some (e2, y1.2)
def m_gleemake_Stream_Flip (a0_0 : (List Int)) (a0_1 : Int) (a1 : Int) : Option (Bool × Int) :=
  (m_gleemake_Stream_Next a0_0 a0_1 a1).bind fun y1 => some (y1.1 == 0, y1.2)
def m_gleemake_Stream_Odd (a0_0 : (List Int)) (a0_1 : Int) (a1 : Int) (a2 : Int) : Option (Int × Int) :=
  (m_gleemake_Stream_Flip a0_0 a0_1 12).bind fun y1 => ifB y1.1 ((m_gleemake_Stream_Pick a0_0 y1.2 [w64 (a1 - 1), w64 (a2 + 1), a1, a2, (-1099511627776), 1099511627776]).bind fun y3 => some (y3.1, y3.2)) ((m_gleemake_Stream_Range a0_0 y1.2 a1 a2).bind fun y4 => some (y4.1, y4.2))
def m_gleemake_Stream_Voices_l3 (a0_0 : (List Int)) (y33 : (Int × Int)) (i34 : Nat) (x35 : Int) (u37 : (Int × (List Int))) : Option (Flow (Int × (List Int)) (Flow (Int × (List (List Int)) × (List Int)) ((List (List Int)) × Int))) :=
  (getI u37.2 (i34 : Int)).bind fun e42 => (m_gleemake_Stream_Range a0_0 u37.1 (-5) 5).bind fun y43 => (m_gleemake_Stream_Pick a0_0 y43.2 [y33.1, y33.1, y33.1, y43.1, 12]).bind fun y45 => (getI u37.2 (i34 : Int)).bind fun e46 => (getI (u37.2.set ((i34 : Int).toNat) (w64 (e42 + y45.1))) (i34 : Int)).bind fun e47 => (getI (u37.2.set ((i34 : Int).toNat) (w64 (e42 + y45.1))) (i34 : Int)).bind fun e48 => some (.nxt (y45.2, ((u37.2.set ((i34 : Int).toNat) (w64 (e42 + y45.1))).set ((i34 : Int).toNat) (max 0 (min e47 127)))))
def m_gleemake_Stream_Voices_l2 (a0_0 : (List Int)) (i17 : Nat) (x18 : Nat) (u21 : (Int × (List (List Int)) × (List Int))) : Option (Flow (Int × (List (List Int)) × (List Int)) ((List (List Int)) × Int)) :=
  (m_slices_Clone_int_int u21.2.2).bind fun y27 => (appM 24 u21.2.1 [y27]).bind fun q30 => (m_gleemake_Stream_Range a0_0 u21.1 (-3) 3).bind fun y33 => (rangeM (m_gleemake_Stream_Voices_l3 a0_0 y33) 0 u21.2.2 (y33.2, u21.2.2)).bind fun f40 => Flow.fin f40 fun u37 => some (.nxt (u37.1, q30, u37.2))
def m_gleemake_Stream_Voices_l1 (a0_0 : (List Int)) (i3 : Nat) (x4 : Nat) (u6 : (Int × (List Int))) : Option (Flow (Int × (List Int)) ((List (List Int)) × Int)) :=
  (m_gleemake_Stream_Range a0_0 u6.1 (-2) 2).bind fun y11 => (appM 8 u6.2 [w64 ((w64 (48 + (w64 (7 * (i3 : Int))))) + y11.1)]).bind fun q13 => some (.nxt (y11.2, q13))
def m_gleemake_Stream_Voices (a0_0 : (List Int)) (a0_1 : Int) : Option ((List (List Int)) × Int) :=
  (m_gleemake_Stream_Range a0_0 a0_1 1 4).bind fun y1 => (rangeI y1.1).bind fun L79 => (rangeM (m_gleemake_Stream_Voices_l1 a0_0) 0 L79 (y1.2, [])).bind fun f9 => Flow.fin f9 fun u6 => (m_gleemake_Stream_Range a0_0 u6.1 0 5).bind fun y16 => (rangeI y16.1).bind fun L78 => (rangeM (m_gleemake_Stream_Voices_l2 a0_0) 0 L78 (y16.2, [], u6.2)).bind fun f24 => Flow.fin f24 fun u21 => (ifB (decide ((u21.2.1.length : Int) > 0)) ((m_gleemake_Stream_Flip a0_0 u21.1 12).bind fun y59 => some (.inl (y59.1, y59.2))) (some (.inl (false, u21.1))) : Option ((Bool × Int) ⊕ ((List (List Int)) × Int))).bind fun k58 => Sum.fin k58 fun u56 => ifB u56.1 ((m_gleemake_Stream_Next a0_0 u56.2 (u21.2.1.length : Int)).bind fun y60 => (getI u21.2.1 y60.1).bind fun e61 => (m_gleemake_Stream_Odd a0_0 y60.2 0 127).bind fun y62 => (appM 8 e61 [y62.1]).bind fun q66 => (m_gleemake_Stream_Range a0_0 y62.2 0 1).bind fun y68 => (sliceI q66 y68.1 (q66.length : Int)).bind fun q69 => (getI u21.2.1 y60.1).bind fun e70 => some ((u21.2.1.set y60.1.toNat q69), y68.2)) (some (u21.2.1, u56.2))
def m_gleemake_Stream_Leap (a0_0 : (List Int)) (a0_1 : Int) : Option (Int × Int) :=
  (m_gleemake_Stream_Pick a0_0 a0_1 [2, 4, 5, 7, 12, 24, 0, (-1), 25]).bind fun y2 => some (y2.1, y2.2)
def m_gleemake_Stream_AChord (a0_0 : (List Int)) (a0_1 : Int) : Option (TChord × Int) :=
  (m_gleemake_Stream_Flip a0_0 a0_1 40).bind fun y2 => ifB y2.1 ((m_gleemake_Stream_Odd a0_0 y2.2 0 11).bind fun y3 => (m_gleemake_Stream_Odd a0_0 y3.2 1 7).bind fun y4 => (m_gleemake_Stream_Odd a0_0 y4.2 0 3).bind fun y5 => some ((TChord.mk y3.1 y4.1 y5.1), y5.2)) ((m_gleemake_Stream_Range a0_0 y2.2 0 11).bind fun y6 => (m_gleemake_Stream_Range a0_0 y6.2 1 7).bind fun y7 => (m_gleemake_Stream_Pick a0_0 y7.2 [0, 0, 0, 1, 2]).bind fun y9 => some ((TChord.mk y6.1 y7.1 y9.1), y9.2))
def m_gleeref2_kindTones (a0 : Int) : Option (List Int) :=
  (getI [[], [0, 4, 7], [0, 3, 7], [0, 3, 6], [0, 4, 8], [0, 4, 7, 10], [0, 4, 7, 11], [0, 3, 7, 10]] a0).bind fun e12 => some e12
def m_gleeref2_TonesOf_l1 (a0 : TChord) (i4 : Nat) (x5 : Int) (u8 : (List Int)) : Option (Flow (List Int) (List Int)) :=
  (appM 8 u8 [(w64 (a0.Root + x5)).tmod 12]).bind fun q14 => some (.nxt q14)
def m_gleeref2_TonesOf (a0 : TChord) : Option (List Int) :=
  (m_gleeref2_kindTones a0.Kind).bind fun y2 => (rangeM (m_gleeref2_TonesOf_l1 a0) 0 y2 []).bind fun f11 => Flow.fin f11 fun u8 => (sliceI u8 a0.Turn (u8.length : Int)).bind fun q17 => (sliceI u8 0 a0.Turn).bind fun q18 => (appM 8 q17 q18).bind fun q19 => some q19
def m_gleemake_Stream_Notes_l1 (a0_0 : (List Int)) (i6 : Nat) (x7 : Int) (u10 : (Int × (List Int))) : Option (Flow (Int × (List Int)) ((List Int) × Int)) :=
  (m_gleemake_Stream_Flip a0_0 u10.1 12).bind fun y15 => ifB (!y15.1) ((m_gleemake_Stream_Range a0_0 y15.2 0 3).bind fun y16 => (appM 8 u10.2 [w64 ((w64 (36 + x7)) + (w64 (12 * y16.1)))]).bind fun q18 => some (.nxt (y16.2, q18))) (some (.nxt (y15.2, u10.2)))
def m_gleemake_Stream_Notes (a0_0 : (List Int)) (a0_1 : Int) : Option ((List Int) × Int) :=
  (m_gleemake_Stream_Range a0_0 a0_1 0 11).bind fun y1 => (m_gleemake_Stream_Range a0_0 y1.2 1 7).bind fun y2 => (m_gleeref2_TonesOf (TChord.mk y1.1 y2.1 0)).bind fun y4 => (rangeM (m_gleemake_Stream_Notes_l1 a0_0) 0 y4 (y2.2, [])).bind fun f13 => Flow.fin f13 fun u10 => (m_gleemake_Stream_Flip a0_0 u10.1 4).bind fun y21 => (ifB y21.1 ((appM 8 u10.2 [w64 (24 + y1.1)]).bind fun q27 => some (.inl q27)) (some (.inl u10.2)) : Option ((List Int) ⊕ ((List Int) × Int))).bind fun k25 => Sum.fin k25 fun u22 => (ifB (decide ((u22.length : Int) > 0)) ((m_gleemake_Stream_Flip a0_0 y21.2 10).bind fun y32 => some (.inl (y32.1, y32.2))) (some (.inl (false, y21.2))) : Option ((Bool × Int) ⊕ ((List Int) × Int))).bind fun k31 => Sum.fin k31 fun u29 => ifB u29.1 ((m_gleemake_Stream_Next a0_0 u29.2 (u22.length : Int)).bind fun y33 => (m_gleemake_Stream_Odd a0_0 y33.2 0 127).bind fun y34 => (getI u22 y33.1).bind fun e35 => some ((u22.set y33.1.toNat y34.1), y34.2)) (some (u22, u29.2))
def m_gleeref2_allChords_l3 (i1 : Nat) (u10 : (Int × (List TChord))) (i17 : Nat) (x18 : Int) (u20 : (List TChord)) : Option (Flow (List TChord) (Flow (Int × (List TChord)) (Flow (List TChord) (List TChord)))) :=
  (appM 24 u20 [(TChord.mk (i1 : Int) u10.1 (i17 : Int))]).bind fun q26 => some (.nxt q26)
def m_gleeref2_allChords_l2 (i1 : Nat) (u10 : (Int × (List TChord))) : Option (Flow (Int × (List TChord)) (Flow (List TChord) (List TChord))) :=
  ifB (decide (u10.1 ≤ 7)) ((m_gleeref2_kindTones u10.1).bind fun y15 => (rangeM (m_gleeref2_allChords_l3 i1 u10) 0 y15 u10.2).bind fun f23 => Flow.fin f23 fun u20 => some (.nxt (w64 (u10.1 + 1), u20))) (some (.brk (u10.1, u10.2)))
def m_gleeref2_allChords_l1  (i1 : Nat) (x2 : Nat) (u5 : (List TChord)) : Option (Flow (List TChord) (List TChord)) :=
  (loopM (m_gleeref2_allChords_l2 i1) (1, u5)).bind fun f13 => Flow.fin f13 fun u10 => some (.nxt u10.2)
def m_gleeref2_allChords  : Option (List TChord) :=
  (rangeI 12).bind fun L31 => (rangeM m_gleeref2_allChords_l1 0 L31 []).bind fun f8 => Flow.fin f8 fun u5 => some u5
def m_gleeref2_classes_l1  (i1 : Nat) (x2 : Int) (u5 : (List Int)) : Option (Flow (List Int) (List Int)) :=
  (appM 8 u5 [x2.tmod 12]).bind fun q11 => some (.nxt q11)
def m_gleeref2_classes (a0 : (List Int)) : Option (List Int) :=
  (rangeM m_gleeref2_classes_l1 0 a0 []).bind fun f8 => Flow.fin f8 fun u5 => (m_slices_Sort_int_int u5).bind fun y14 => (m_slices_Compact_int_int y14).bind fun y15 => some y15
def m_slices_Equal_int_int_l1 (a1 : (List Int)) (i1 : Nat) (x2 : Int) (u4 : Unit) : Option (Flow Unit Bool) :=
  (getI a1 (i1 : Int)).bind fun e8 => ifB (x2 != e8) (some (.ret false)) (some (.nxt ()))
def m_slices_Equal_int_int (a0 : (List Int)) (a1 : (List Int)) : Option Bool :=
  ifB ((a0.length : Int) != (a1.length : Int)) (some false) ((rangeM (m_slices_Equal_int_int_l1 a1) 0 a0 ()).bind fun f7 => Flow.fin f7 fun u4 => some true)
def m_slices_Min_int_int_l1 (a0 : (List Int)) (u2 : (Int × Int)) : Option (Flow (Int × Int) Int) :=
  ifB (decide (u2.2 < (a0.length : Int))) ((getI a0 u2.2).bind fun e6 => some (.nxt (min u2.1 e6, w64 (u2.2 + 1)))) (some (.brk (u2.1, u2.2)))
def m_slices_Min_int_int (a0 : (List Int)) : Option Int :=
  ifB (decide ((a0.length : Int) < 1)) (none) ((getI a0 0).bind fun e1 => (loopM (m_slices_Min_int_int_l1 a0) (e1, 1)).bind fun f5 => Flow.fin f5 fun u2 => some u2.1)
def m_gleeref2_ChordsOf_1 (a0 : TChord) (a1_0 : (List Int)) : Option Bool :=
  (m_gleeref2_TonesOf a0).bind fun y2 => ((m_gleeref2_classes y2).bind fun y7 => (m_gleeref2_classes a1_0).bind fun y9 => (m_slices_Equal_int_int y7 y9).bind fun y11 => ifB (!y11) (some (.inl true)) ((getI y2 0).bind fun e12 => (m_slices_Min_int_int a1_0).bind fun y13 => some (.inl (e12 != (y13.tmod 12)))) : Option (Bool ⊕ Bool)).bind fun k6 => Sum.fin k6 fun u4 => some u4
def m_slices_IndexFunc_api_Chord_api_Chord__gleeref2_ChordsOf_1_l1 (a1_c0_0 : (List Int)) (i1 : Nat) (x2 : TChord) (u4 : Unit) : Option (Flow Unit Int) :=
  (m_gleeref2_ChordsOf_1 x2 a1_c0_0).bind fun y8 => ifB y8 (some (.ret (i1 : Int))) (some (.nxt ()))
def m_slices_IndexFunc_api_Chord_api_Chord__gleeref2_ChordsOf_1 (a0 : (List TChord)) (a1_c0_0 : (List Int)) : Option Int :=
  (rangeM (m_slices_IndexFunc_api_Chord_api_Chord__gleeref2_ChordsOf_1_l1 a1_c0_0) 0 a0 ()).bind fun f7 => Flow.fin f7 fun u4 => some (-1)
def m_slices_DeleteFunc_api_Chord_api_Chord__gleeref2_ChordsOf_1_l1 (a1_c0_0 : (List Int)) (u2 : (Int × Int × (List TChord))) : Option (Flow (Int × Int × (List TChord)) (List TChord)) :=
  ifB (decide (u2.2.1 < (u2.2.2.length : Int))) ((getI u2.2.2 u2.2.1).bind fun e6 => (m_gleeref2_ChordsOf_1 e6 a1_c0_0).bind fun y8 => ifB (!y8) ((getI u2.2.2 u2.1).bind fun e9 => some (.nxt (w64 (u2.1 + 1), w64 (u2.2.1 + 1), (u2.2.2.set u2.1.toNat e6)))) (some (.nxt (u2.1, w64 (u2.2.1 + 1), u2.2.2)))) (some (.brk (u2.1, u2.2.1, u2.2.2)))
def m_slices_DeleteFunc_api_Chord_api_Chord__gleeref2_ChordsOf_1 (a0 : (List TChord)) (a1_c0_0 : (List Int)) : Option (List TChord) :=
  (m_slices_IndexFunc_api_Chord_api_Chord__gleeref2_ChordsOf_1 a0 a1_c0_0).bind fun y1 => ifB (y1 == (-1)) (some a0) ((loopM (m_slices_DeleteFunc_api_Chord_api_Chord__gleeref2_ChordsOf_1_l1 a1_c0_0) (y1, w64 (y1 + 1), a0)).bind fun f5 => Flow.fin f5 fun u2 => (sliceI u2.2.2 u2.1 (u2.2.2.length : Int)).bind fun q10 => (sliceI (clearM (TChord.mk 0 0 0) u2.2.2 u2.1) 0 u2.1).bind fun q11 => some q11)
def m_gleeref2_ChordsOf (a0 : (List Int)) : Option (List TChord) :=
  m_gleeref2_allChords.bind fun y2 => (m_slices_DeleteFunc_api_Chord_api_Chord__gleeref2_ChordsOf_1 y2 a0).bind fun y4 => some y4
def m_gleeref2_in (a0 : Int) (a1 : Int) (a2 : Int) : Option Bool :=
  ifB (decide (a1 ≤ a0)) (some (decide (a0 ≤ a2))) (some false)
def m_gleeref2_NotesFault_l1  (i1 : Nat) (x2 : Int) (u4 : Unit) : Option (Flow Unit Int) :=
  (m_gleeref2_in x2 0 127).bind fun y8 => ifB (!y8) (some (.ret 1)) (some (.nxt ()))
def m_gleeref2_NotesFault (a0 : (List Int)) (a1 : Int) : Option Int :=
  ifB ((a0.length : Int) == 0) (some 8) (ifB (decide ((a0.length : Int) > a1)) (some 2) ((rangeM m_gleeref2_NotesFault_l1 0 a0 ()).bind fun f7 => Flow.fin f7 fun u4 => some 0))
def m_kit_Outside (a0 : Int) (a1 : Int) (a2 : Int) : Option Bool :=
  ifB (decide (a0 < a1)) (some true) (some (decide (a0 > a2)))
def m_chord_voicesFault_1 (a0 : Int) : Option Bool :=
  (m_kit_Outside a0 0 127).bind fun y1 => some y1
def m_slices_IndexFunc_int_int__chord_voicesFault_1_l1  (i1 : Nat) (x2 : Int) (u4 : Unit) : Option (Flow Unit Int) :=
  (m_chord_voicesFault_1 x2).bind fun y8 => ifB y8 (some (.ret (i1 : Int))) (some (.nxt ()))
def m_slices_IndexFunc_int_int__chord_voicesFault_1 (a0 : (List Int)) : Option Int :=
  (rangeM m_slices_IndexFunc_int_int__chord_voicesFault_1_l1 0 a0 ()).bind fun f7 => Flow.fin f7 fun u4 => some (-1)
def m_slices_ContainsFunc_int_int__chord_voicesFault_1 (a0 : (List Int)) : Option Bool :=
  (m_slices_IndexFunc_int_int__chord_voicesFault_1 a0).bind fun y1 => some (decide (y1 ≥ 0))
def m_chord_voicesFault_l2  (i13 : Nat) (x14 : (List Int)) (u16 : Unit) : Option (Flow Unit Int) :=
  (m_slices_ContainsFunc_int_int__chord_voicesFault_1 x14).bind fun y20 => ifB y20 (some (.ret 1)) (some (.nxt ()))
def m_chord_voicesFault_l1 (a0 : (List (List Int))) (i1 : Nat) (x2 : (List Int)) (u4 : Unit) : Option (Flow Unit Int) :=
  ((m_kit_Outside (x2.length : Int) 1 5).bind fun y11 => ifB y11 (some (.inl true)) ((getI a0 0).bind fun e12 => some (.inl ((x2.length : Int) != (e12.length : Int)))) : Option (Bool ⊕ (Flow Unit Int))).bind fun k10 => Sum.fin k10 fun u8 => ifB u8 (some (.ret 3)) (some (.nxt ()))
def m_chord_voicesFault (a0 : (List (List Int))) : Option Int :=
  ifB (decide ((a0.length : Int) > 144)) (some 2) ((rangeM (m_chord_voicesFault_l1 a0) 0 a0 ()).bind fun f7 => Flow.fin f7 fun u4 => (rangeM m_chord_voicesFault_l2 0 a0 ()).bind fun f19 => Flow.fin f19 fun u16 => some 0)
def m_chord_size (a0 : Int) : Option Int :=
  some (max a0 (w64 (0 - a0)))
def m_chord_still_l2 (a0 : Int) (a1 : (List Int)) (u16 : (Int × (List TFault))) : Option (Flow (Int × (List TFault)) (List TFault)) :=
  ifB (decide (u16.1 < (w64 ((a1.length : Int) - 1)))) ((getI a1 (w64 (u16.1 + 1))).bind fun e21 => (getI a1 u16.1).bind fun e22 => (m_chord_size (w64 (e21 - e22))).bind fun y23 => ifB (decide (y23 > 12)) ((appM 32 u16.2 [(TFault.mk a0 2 u16.1 (w64 (u16.1 + 1)))]).bind fun q25 => some (.nxt (w64 (u16.1 + 1), q25))) (some (.nxt (w64 (u16.1 + 1), u16.2)))) (some (.brk (u16.1, u16.2)))
def m_chord_still_l1 (a0 : Int) (a1 : (List Int)) (i1 : Nat) (x2 : Nat) (u5 : (List TFault)) : Option (Flow (List TFault) (List TFault)) :=
  (getI a1 (i1 : Int)).bind fun e10 => (getI a1 (w64 ((i1 : Int) + 1))).bind fun e11 => ifB (decide (e10 > e11)) ((appM 32 u5 [(TFault.mk a0 1 (i1 : Int) (w64 ((i1 : Int) + 1)))]).bind fun q13 => some (.nxt q13)) (some (.nxt u5))
def m_chord_still (a0 : Int) (a1 : (List Int)) : Option (List TFault) :=
  (rangeI (w64 ((a1.length : Int) - 1))).bind fun L28 => (rangeM (m_chord_still_l1 a0 a1) 0 L28 []).bind fun f8 => Flow.fin f8 fun u5 => (loopM (m_chord_still_l2 a0 a1) (1, u5)).bind fun f19 => Flow.fin f19 fun u16 => some u16.2
def m_chord_apart_1 (a0 : Int) : Option Int :=
  some ((w64 ((a0.tmod 12) + 12)).tmod 12)
def m_chord_apart (a0 : (List Int)) (a1 : (List Int)) (a2 : Int) (a3 : Int) (a4 : Int) : Option Bool :=
  (getI a1 a2).bind fun e1 => (getI a0 a2).bind fun e2 => (getI a1 a3).bind fun e3 => (getI a0 a3).bind fun e4 => (ifB (decide ((w64 (e1 - e2)) > 0)) (ifB (decide ((w64 (e3 - e4)) > 0)) (some (.inl true)) (ifB (decide ((w64 (e1 - e2)) < 0)) (some (.inl (decide ((w64 (e3 - e4)) < 0)))) (some (.inl false)))) (ifB (decide ((w64 (e1 - e2)) < 0)) (some (.inl (decide ((w64 (e3 - e4)) < 0)))) (some (.inl false))) : Option (Bool ⊕ Bool)).bind fun k7 => Sum.fin k7 fun u5 => ifB u5 ((getI a0 a3).bind fun e8 => (getI a0 a2).bind fun e9 => (m_chord_apart_1 (w64 (e8 - e9))).bind fun y10 => ifB (y10 == a4) ((getI a1 a3).bind fun e11 => (getI a1 a2).bind fun e12 => (m_chord_apart_1 (w64 (e11 - e12))).bind fun y13 => some (y13 == a4)) (some false)) (some false)
def m_chord_moved_l3 (a0 : Int) (a1 : (List Int)) (a2 : (List Int)) (x3 : Int) (u11 : Int) (i14 : Nat) (u22 : (Int × (List TFault))) : Option (Flow (Int × (List TFault)) (Flow (List TFault) (Flow (List TFault) (List TFault)))) :=
  ifB (decide (u22.1 < (a2.length : Int))) ((m_chord_apart a1 a2 (i14 : Int) u22.1 u11).bind fun y27 => ifB y27 ((appM 32 u22.2 [(TFault.mk a0 x3 (i14 : Int) u22.1)]).bind fun q29 => some (.nxt (w64 (u22.1 + 1), q29))) (some (.nxt (w64 (u22.1 + 1), u22.2)))) (some (.brk (u22.1, u22.2)))
def m_chord_moved_l2 (a0 : Int) (a1 : (List Int)) (a2 : (List Int)) (x3 : Int) (u11 : Int) (i14 : Nat) (x15 : Int) (u17 : (List TFault)) : Option (Flow (List TFault) (Flow (List TFault) (List TFault))) :=
  (loopM (m_chord_moved_l3 a0 a1 a2 x3 u11 i14) (w64 ((i14 : Int) + 1), u17)).bind fun f25 => Flow.fin f25 fun u22 => some (.nxt u22.2)
def m_chord_moved_l4 (a0 : Int) (a1 : (List Int)) (a3 : Int) (i34 : Nat) (x35 : Int) (u37 : (List TFault)) : Option (Flow (List TFault) (List TFault)) :=
  (getI a1 (i34 : Int)).bind fun e42 => (m_chord_size (w64 (x35 - e42))).bind fun y43 => ifB (decide (y43 > a3)) ((appM 32 u37 [(TFault.mk a0 5 (i34 : Int) (i34 : Int))]).bind fun q45 => some (.nxt q45)) (some (.nxt u37))
def m_chord_moved_l1 (a0 : Int) (a1 : (List Int)) (a2 : (List Int)) (i2 : Nat) (x3 : Int) (u6 : (List TFault)) : Option (Flow (List TFault) (List TFault)) :=
  (ifB (x3 == 4) (some (.inl 0)) (some (.inl 7)) : Option (Int ⊕ (Flow (List TFault) (List TFault)))).bind fun k13 => Sum.fin k13 fun u11 => (rangeM (m_chord_moved_l2 a0 a1 a2 x3 u11) 0 a2 u6).bind fun f20 => Flow.fin f20 fun u17 => some (.nxt u17)
def m_chord_moved (a0 : Int) (a1 : (List Int)) (a2 : (List Int)) (a3 : Int) : Option (List TFault) :=
  (rangeM (m_chord_moved_l1 a0 a1 a2) 0 [3, 4] []).bind fun f9 => Flow.fin f9 fun u6 => (rangeM (m_chord_moved_l4 a0 a1 a3) 0 a2 u6).bind fun f40 => Flow.fin f40 fun u37 => some u37
def m_chord_Faults_l1 (a0 : (List (List Int))) (a1 : Int) (i5 : Nat) (x6 : (List Int)) (u9 : (List TFault)) : Option (Flow (List TFault) ((List TFault) × Int)) :=
  (m_chord_still (i5 : Int) x6).bind fun y14 => (appM 32 u9 y14).bind fun q16 => ifB (decide ((i5 : Int) > 0)) ((getI a0 (w64 ((i5 : Int) - 1))).bind fun e18 => (m_chord_moved (i5 : Int) e18 x6 a1).bind fun y19 => (appM 32 q16 y19).bind fun q21 => some (.nxt q21)) (some (.nxt q16))
def m_chord_Faults (a0 : (List (List Int))) (a1 : Int) : Option ((List TFault) × Int) :=
  (m_chord_voicesFault a0).bind fun y1 => ifB (y1 != 0) (some ([], y1)) ((m_kit_Outside a1 0 24).bind fun y3 => ifB y3 (some ([], 1)) ((rangeM (m_chord_Faults_l1 a0 a1) 0 a0 []).bind fun f12 => Flow.fin f12 fun u9 => some (u9, 0)))
def m_chord_isKind (a0 : Int) : Option Bool :=
  (m_kit_Outside a0 1 7).bind fun y1 => some (!y1)
def m_chord_above (a0 : Int) : Option (List Int) :=
  (getI [[], [0, 4, 7], [0, 3, 7], [0, 3, 6], [0, 4, 8], [0, 4, 7, 10], [0, 4, 7, 11], [0, 3, 7, 10]] a0).bind fun e12 => some e12
def m_chord_CheckChord (a0 : TChord) : Option Int :=
  (m_kit_Outside a0.Root 0 11).bind fun y2 => ifB y2 (some 1) ((m_chord_isKind a0.Kind).bind fun y3 => ifB (!y3) (some 4) ((m_chord_above a0.Kind).bind fun y4 => (m_kit_Outside a0.Turn 0 (w64 ((y4.length : Int) - 1))).bind fun y6 => ifB y6 (some 1) (some 0)))
def m_chord_notesFault_1 (a0 : Int) : Option Bool :=
  (m_kit_Outside a0 0 127).bind fun y1 => some y1
def m_slices_IndexFunc_int_int__chord_notesFault_1_l1  (i1 : Nat) (x2 : Int) (u4 : Unit) : Option (Flow Unit Int) :=
  (m_chord_notesFault_1 x2).bind fun y8 => ifB y8 (some (.ret (i1 : Int))) (some (.nxt ()))
def m_slices_IndexFunc_int_int__chord_notesFault_1 (a0 : (List Int)) : Option Int :=
  (rangeM m_slices_IndexFunc_int_int__chord_notesFault_1_l1 0 a0 ()).bind fun f7 => Flow.fin f7 fun u4 => some (-1)
def m_slices_ContainsFunc_int_int__chord_notesFault_1 (a0 : (List Int)) : Option Bool :=
  (m_slices_IndexFunc_int_int__chord_notesFault_1 a0).bind fun y1 => some (decide (y1 ≥ 0))
def m_chord_notesFault (a0 : (List Int)) (a1 : Int) : Option Int :=
  ifB ((a0.length : Int) == 0) (some 8) (ifB (decide ((a0.length : Int) > a1)) (some 2) ((m_slices_ContainsFunc_int_int__chord_notesFault_1 a0).bind fun y1 => ifB y1 (some 1) (some 0)))
def m_chord_tones_l1 (a0 : TChord) (y2 : (List Int)) (i4 : Nat) (x5 : Int) (u8 : (List Int)) : Option (Flow (List Int) (List Int)) :=
  (remM (w64 ((i4 : Int) + a0.Turn)) (y2.length : Int)).bind fun z13 => (getI y2 z13).bind fun e14 => (appM 8 u8 [(w64 (a0.Root + e14)).tmod 12]).bind fun q16 => some (.nxt q16)
def m_chord_tones (a0 : TChord) : Option (List Int) :=
  (m_chord_above a0.Kind).bind fun y2 => (rangeM (m_chord_tones_l1 a0 y2) 0 y2 []).bind fun f11 => Flow.fin f11 fun u8 => some u8
def m_chord_set_l1  (i1 : Nat) (x2 : Int) (u5 : (List Int)) : Option (Flow (List Int) (List Int)) :=
  (appM 8 u5 [x2.tmod 12]).bind fun q11 => some (.nxt q11)
def m_chord_set (a0 : (List Int)) : Option (List Int) :=
  (rangeM m_chord_set_l1 0 a0 []).bind fun f8 => Flow.fin f8 fun u5 => (m_slices_Sort_int_int u5).bind fun y14 => (m_slices_Compact_int_int y14).bind fun y15 => some y15
def m_chord_fits (a0 : TChord) (a1 : (List Int)) : Option Bool :=
  (m_chord_tones a0).bind fun y2 => ((getI a1 0).bind fun e7 => (getI y2 0).bind fun e8 => ifB ((e7.tmod 12) == e8) ((m_chord_set a1).bind fun y9 => (m_chord_set y2).bind fun y11 => (m_slices_Equal_int_int y9 y11).bind fun y13 => some (.inl y13)) (some (.inl false)) : Option (Bool ⊕ Bool)).bind fun k6 => Sum.fin k6 fun u4 => some u4
def m_chord_Fits (a0 : TChord) (a1 : (List Int)) : Option (Bool × Int) :=
  (m_chord_CheckChord a0).bind fun y2 => ifB (y2 != 0) (some (false, y2)) ((m_chord_notesFault a1 5).bind fun y3 => ifB (y3 != 0) (some (false, y3)) ((m_chord_fits a0 a1).bind fun y4 => some (y4, 0)))
def m_gleeref2_VoicesFault_l3  (i20 : Nat) (x21 : Int) (u23 : Unit) : Option (Flow Unit (Flow Unit Int)) :=
  (m_gleeref2_in x21 0 127).bind fun y27 => ifB (!y27) (some (.ret (.ret 1))) (some (.nxt ()))
def m_gleeref2_VoicesFault_l2  (i13 : Nat) (x14 : (List Int)) (u16 : Unit) : Option (Flow Unit Int) :=
  (rangeM m_gleeref2_VoicesFault_l3 0 x14 ()).bind fun f26 => Flow.fin f26 fun u23 => some (.nxt ())
def m_gleeref2_VoicesFault_l1 (a0 : (List (List Int))) (i1 : Nat) (x2 : (List Int)) (u4 : Unit) : Option (Flow Unit Int) :=
  ((m_gleeref2_in (x2.length : Int) 1 5).bind fun y11 => ifB (!y11) (some (.inl true)) ((getI a0 0).bind fun e12 => some (.inl ((x2.length : Int) != (e12.length : Int)))) : Option (Bool ⊕ (Flow Unit Int))).bind fun k10 => Sum.fin k10 fun u8 => ifB u8 (some (.ret 3)) (some (.nxt ()))
def m_gleeref2_VoicesFault (a0 : (List (List Int))) (a1 : Int) : Option Int :=
  ifB (decide ((a0.length : Int) > 144)) (some 2) ((rangeM (m_gleeref2_VoicesFault_l1 a0) 0 a0 ()).bind fun f7 => Flow.fin f7 fun u4 => (rangeM m_gleeref2_VoicesFault_l2 0 a0 ()).bind fun f19 => Flow.fin f19 fun u16 => (m_gleeref2_in a1 0 24).bind fun y28 => ifB (!y28) (some 1) (some 0))
def m_gleeref2_ChordFault (a0 : TChord) : Option Int :=
  (m_gleeref2_in a0.Root 0 11).bind fun y2 => ifB (!y2) (some 1) ((m_gleeref2_in a0.Kind 1 7).bind fun y3 => ifB (!y3) (some 4) ((m_gleeref2_kindTones a0.Kind).bind fun y4 => (m_gleeref2_in a0.Turn 0 (w64 ((y4.length : Int) - 1))).bind fun y6 => ifB (!y6) (some 1) (some 0)))
def m_gleelaw2_errs_l1  (i1 : Nat) (x2 : Int) (u4 : Unit) : Option (Flow Unit Int) :=
  ifB (x2 != 0) (some (.ret x2)) (some (.nxt ()))
def m_gleelaw2_errs (a0 : (List Int)) : Option Int :=
  (rangeM m_gleelaw2_errs_l1 0 a0 ()).bind fun f7 => Flow.fin f7 fun u4 => some 0
def m_gleeref2_sign (a0 : Int) : Option Int :=
  ifB (decide (a0 < 0)) (some (-1)) (ifB (decide (a0 > 0)) (some 1) (some 0))
def m_gleeref2_faulty_1 (a0 : (List Int)) (a1_0 : Int) (a2_0 : Int) : Option Int :=
  (getI a0 a1_0).bind fun e1 => (getI a0 a2_0).bind fun e2 => some ((w64 (((w64 (e1 - e2)).tmod 12) + 12)).tmod 12)
def m_gleeref2_faulty (a0 : (List Int)) (a1 : (List Int)) (a2 : Int) (a3 : Int) (a4 : Int) (a5 : Int) : Option Bool :=
  (getI a1 a3).bind fun e3 => (getI a0 a3).bind fun e4 => (getI a1 a4).bind fun e5 => (getI a0 a4).bind fun e6 => (ifB (decide (a3 < a4)) (ifB ((w64 (e3 - e4)) != 0) ((m_gleeref2_sign (w64 (e3 - e4))).bind fun y10 => (m_gleeref2_sign (w64 (e5 - e6))).bind fun y11 => some (.inl (y10 == y11))) (some (.inl false))) (some (.inl false)) : Option (Bool ⊕ Bool)).bind fun k9 => Sum.fin k9 fun u7 => ifB (a2 == 1) (ifB (a4 == (w64 (a3 + 1))) ((getI a1 a3).bind fun e12 => (getI a1 a4).bind fun e13 => some (decide (e12 > e13))) (some false)) (ifB (a2 == 2) (ifB (a4 == (w64 (a3 + 1))) (ifB (decide (a3 > 0)) ((getI a1 a4).bind fun e14 => (getI a1 a3).bind fun e15 => (getI a1 a3).bind fun e16 => (getI a1 a4).bind fun e17 => some (decide ((max (w64 (e14 - e15)) (w64 (e16 - e17))) > 12))) (some false)) (some false)) (ifB (a2 == 3) ((ifB u7 ((m_gleeref2_faulty_1 a0 a4 a3).bind fun y21 => ifB (y21 == 7) ((m_gleeref2_faulty_1 a1 a4 a3).bind fun y22 => some (.inl (y22 == 7))) (some (.inl false))) (some (.inl false)) : Option (Bool ⊕ Bool)).bind fun k20 => Sum.fin k20 fun u18 => some u18) (ifB (a2 == 4) ((ifB u7 ((m_gleeref2_faulty_1 a0 a4 a3).bind fun y26 => ifB (y26 == 0) ((m_gleeref2_faulty_1 a1 a4 a3).bind fun y27 => some (.inl (y27 == 0))) (some (.inl false))) (some (.inl false)) : Option (Bool ⊕ Bool)).bind fun k25 => Sum.fin k25 fun u23 => some u23) (ifB (a3 == a4) (some (decide ((max (w64 (e3 - e4)) (w64 (0 - (w64 (e3 - e4))))) > a5))) (some false)))))
def m_gleeref2_FaultsOf_l4 (a1 : Int) (i1 : Nat) (x2 : (List Int)) (u17 : (Int × (List TFault))) (u10 : (List Int)) (i22 : Nat) (u30 : (Int × (List TFault))) : Option (Flow (Int × (List TFault)) (Flow (List TFault) (Flow (Int × (List TFault)) (Flow (List TFault) (List TFault))))) :=
  ifB (decide (u30.1 < (x2.length : Int))) ((m_gleeref2_faulty u10 x2 u17.1 (i22 : Int) u30.1 a1).bind fun y35 => ifB y35 ((appM 32 u30.2 [(TFault.mk (i1 : Int) u17.1 (i22 : Int) u30.1)]).bind fun q37 => some (.nxt (w64 (u30.1 + 1), q37))) (some (.nxt (w64 (u30.1 + 1), u30.2)))) (some (.brk (u30.1, u30.2)))
def m_gleeref2_FaultsOf_l3 (a1 : Int) (i1 : Nat) (x2 : (List Int)) (u17 : (Int × (List TFault))) (u10 : (List Int)) (i22 : Nat) (x23 : Int) (u25 : (List TFault)) : Option (Flow (List TFault) (Flow (Int × (List TFault)) (Flow (List TFault) (List TFault)))) :=
  (loopM (m_gleeref2_FaultsOf_l4 a1 i1 x2 u17 u10 i22) ((i22 : Int), u25)).bind fun f33 => Flow.fin f33 fun u30 => some (.nxt u30.2)
def m_gleeref2_FaultsOf_l2 (a1 : Int) (i1 : Nat) (x2 : (List Int)) (u10 : (List Int)) (u17 : (Int × (List TFault))) : Option (Flow (Int × (List TFault)) (Flow (List TFault) (List TFault))) :=
  ifB (decide (u17.1 ≤ 5)) ((rangeM (m_gleeref2_FaultsOf_l3 a1 i1 x2 u17 u10) 0 x2 u17.2).bind fun f28 => Flow.fin f28 fun u25 => some (.nxt (w64 (u17.1 + 1), u25))) (some (.brk (u17.1, u17.2)))
def m_gleeref2_FaultsOf_l1 (a0 : (List (List Int))) (a1 : Int) (i1 : Nat) (x2 : (List Int)) (u5 : (List TFault)) : Option (Flow (List TFault) (List TFault)) :=
  (ifB (decide ((i1 : Int) > 0)) ((getI a0 (w64 ((i1 : Int) - 1))).bind fun e14 => some (.inl e14)) (some (.inl x2)) : Option ((List Int) ⊕ (Flow (List TFault) (List TFault)))).bind fun k13 => Sum.fin k13 fun u10 => (loopM (m_gleeref2_FaultsOf_l2 a1 i1 x2 u10) (1, u5)).bind fun f20 => Flow.fin f20 fun u17 => some (.nxt u17.2)
def m_gleeref2_FaultsOf (a0 : (List (List Int))) (a1 : Int) : Option (List TFault) :=
  (rangeM (m_gleeref2_FaultsOf_l1 a0 a1) 0 a0 []).bind fun f8 => Flow.fin f8 fun u5 => some u5
def m_slices_Equal_api_Fault_api_Fault_l1 (a1 : (List TFault)) (i1 : Nat) (x2 : TFault) (u4 : Unit) : Option (Flow Unit Bool) :=
  (getI a1 (i1 : Int)).bind fun e8 => ifB (!(decide (x2 = e8))) (some (.ret false)) (some (.nxt ()))
def m_slices_Equal_api_Fault_api_Fault (a0 : (List TFault)) (a1 : (List TFault)) : Option Bool :=
  ifB ((a0.length : Int) != (a1.length : Int)) (some false) ((rangeM (m_slices_Equal_api_Fault_api_Fault_l1 a1) 0 a0 ()).bind fun f7 => Flow.fin f7 fun u4 => some true)
def m_gleeref2_FitsOf (a0 : TChord) (a1 : (List Int)) : Option Bool :=
  ((m_gleeref2_classes a1).bind fun y5 => (m_gleeref2_TonesOf a0).bind fun y7 => (m_gleeref2_classes y7).bind fun y9 => (m_slices_Equal_int_int y5 y9).bind fun y11 => ifB y11 ((getI a1 0).bind fun e12 => (m_gleeref2_TonesOf a0).bind fun y13 => (getI y13 0).bind fun e15 => some (.inl ((e12.tmod 12) == e15))) (some (.inl false)) : Option (Bool ⊕ Bool)).bind fun k4 => Sum.fin k4 fun u2 => some u2
def m_chord_rootWords  : Option (List ByteArray) :=
  some [(ByteArray.mk [99].toArray), (ByteArray.mk [99, 35].toArray), (ByteArray.mk [100].toArray), (ByteArray.mk [100, 35].toArray), (ByteArray.mk [101].toArray), (ByteArray.mk [102].toArray), (ByteArray.mk [102, 35].toArray), (ByteArray.mk [103].toArray), (ByteArray.mk [103, 35].toArray), (ByteArray.mk [97].toArray), (ByteArray.mk [97, 35].toArray), (ByteArray.mk [98].toArray)]
def m_chord_kindWords  : Option (List ByteArray) :=
  some [ByteArray.empty, (ByteArray.mk [109, 97, 106].toArray), (ByteArray.mk [109, 105, 110].toArray), (ByteArray.mk [100, 105, 109].toArray), (ByteArray.mk [97, 117, 103].toArray), (ByteArray.mk [55].toArray), (ByteArray.mk [109, 97, 106, 55].toArray), (ByteArray.mk [109, 105, 110, 55].toArray)]
def m_chord_Name (a0 : TChord) : Option (ByteArray × Int) :=
  (m_chord_CheckChord a0).bind fun y2 => ifB (y2 != 0) (some (ByteArray.empty, y2)) ((m_chord_rootWords.bind fun y6 => (getI y6 a0.Root).bind fun e8 => (catM e8 (ByteArray.mk [32].toArray)).bind fun c9 => m_chord_kindWords.bind fun y10 => (getI y10 a0.Kind).bind fun e12 => (catM c9 e12).bind fun c13 => some (.inl c13) : Option (ByteArray ⊕ (ByteArray × Int))).bind fun k5 => Sum.fin k5 fun u3 => ifB (decide (a0.Turn > 0)) ((m_strconv_Itoa a0.Turn).bind fun y18 => (catM (ByteArray.mk [47].toArray) y18).bind fun c19 => (catM u3 c19).bind fun c20 => some (c20, 0)) (some (u3, 0)))
def m_gleelaw2_sounded  : Option Bool :=
  (m_chord_Name (TChord.mk 1 2 1)).bind fun y1 => ifB (y1.2 == 0) (some (y1.1.toList == (ByteArray.mk [99, 35, 32, 109, 105, 110, 47, 49].toArray).toList)) (some false)
def m_gleelaw2_VoicesJudged (a0 : (List Int)) : Option Bool :=
  (m_gleemake_Stream_Voices a0 0).bind fun y2 => (m_gleemake_Stream_Leap a0 y2.2).bind fun y5 => (m_gleemake_Stream_AChord a0 y5.2).bind fun y6 => (m_gleemake_Stream_Notes a0 y6.2).bind fun y7 => (m_gleemake_Stream_Flip a0 y7.2 2).bind fun y10 => (ifB y10.1 ((m_gleeref2_ChordsOf y7.1).bind fun y14 => ((m_gleeref2_NotesFault y7.1 5).bind fun y19 => ifB (y19 == 0) (some (.inl (decide ((y14.length : Int) > 0)))) (some (.inl false)) : Option (Bool ⊕ ((Int × Int × Int) ⊕ Bool))).bind fun k18 => Sum.fin k18 fun u16 => ifB u16 ((getI y14 0).bind fun e20 => some (.inl (e20.Root, e20.Kind, e20.Turn))) (some (.inl (y6.1.Root, y6.1.Kind, y6.1.Turn)))) (some (.inl (y6.1.Root, y6.1.Kind, y6.1.Turn))) : Option ((Int × Int × Int) ⊕ Bool)).bind fun k13 => Sum.fin k13 fun u11 => (m_chord_Faults y2.1 y5.1).bind fun y21 => (m_chord_Fits (TChord.mk u11.1 u11.2.1 u11.2.2) y7.1).bind fun y23 => (m_gleeref2_VoicesFault y2.1 y5.1).bind fun y24 => (m_gleeref2_ChordFault (TChord.mk u11.1 u11.2.1 u11.2.2)).bind fun y25 => (m_gleeref2_NotesFault y7.1 5).bind fun y26 => (m_gleelaw2_errs [y25, y26]).bind fun y28 => (ifB (y24 == 0) ((m_gleeref2_FaultsOf y2.1 y5.1).bind fun y33 => some (.inl y33)) (some (.inl [])) : Option ((List TFault) ⊕ Bool)).bind fun k32 => Sum.fin k32 fun u29 => ifB (y21.2 == y24) ((m_slices_Equal_api_Fault_api_Fault y21.1 u29).bind fun y36 => ifB y36 (ifB (y23.2 == y28) (ifB (y28 == 0) ((m_gleeref2_FitsOf (TChord.mk u11.1 u11.2.1 u11.2.2) y7.1).bind fun y37 => ifB (y23.1 == y37) (m_gleelaw2_sounded.bind fun y38 => some y38) (some false)) (ifB (y23.1 == false) (m_gleelaw2_sounded.bind fun y39 => some y39) (some false))) (some false)) (some false)) (some false)
end
end Go.G
