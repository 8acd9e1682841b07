/- The models. Written by program. -/
import Derived.Test.YtndkkkgkmeijlaaDoorXMN
namespace Go.G
open Go Go.J
noncomputable section
structure Tgleemake_Stream where
  L : (List Int)
  at_ : Int
  deriving DecidableEq, Inhabited
structure TChord where
  Root : Int
  Kind : Int
  Turn : Int
  deriving DecidableEq, Inhabited
def m_gleemake_Below (a0 : Int) (a1 : Int) : Option Int :=
  ifB (decide (a1 < 1)) (some 0) ((remM a0 a1).bind fun z1 => ifB (decide (z1 < 0)) (some (w64 (z1 + a1))) (some z1))
def m_gleemake_Stream_Next (a0_0 : (List Int)) (a0_1 : Int) (a1 : Int) : Option (Int × Int) :=
  ifB ((a0_0.length : Int) == 0) ((m_gleemake_Below (w64 ((w64 (a0_1 + 1)) * 7919)) a1).bind fun y1 => some (y1, w64 (a0_1 + 1))) ((remM (w64 ((w64 (a0_1 + 1)) - 1)) (a0_0.length : Int)).bind fun z2 => (quoM (w64 ((w64 (a0_1 + 1)) - 1)) (a0_0.length : Int)).bind fun z3 => (getI a0_0 z2).bind fun e4 => (m_gleemake_Below e4 1073741824).bind fun y5 => (m_gleemake_Below (w64 (y5 + (w64 (z3 * (w64 (7919 + z2)))))) a1).bind fun y6 => some (y6, w64 (a0_1 + 1)))
def m_gleemake_Stream_Flip (a0_0 : (List Int)) (a0_1 : Int) (a1 : Int) : Option (Bool × Int) :=
  (m_gleemake_Stream_Next a0_0 a0_1 a1).bind fun y1 => some (y1.1 == 0, y1.2)
def m_gleemake_Stream_Pick (a0_0 : (List Int)) (a0_1 : Int) (a1 : (List Int)) : Option (Int × Int) :=
  (m_gleemake_Stream_Next a0_0 a0_1 (a1.length : Int)).bind fun y1 => (getI a1 y1.1).bind fun e2 => some (e2, y1.2)
def m_gleemake_Stream_Range (a0_0 : (List Int)) (a0_1 : Int) (a1 : Int) (a2 : Int) : Option (Int × Int) :=
  ifB (decide (a2 < a1)) (some (a1, a0_1)) ((m_gleemake_Stream_Next a0_0 a0_1 (w64 ((w64 (a2 - a1)) + 1))).bind fun y1 => some (w64 (a1 + y1.1), y1.2))
def m_gleemake_Stream_Odd (a0_0 : (List Int)) (a0_1 : Int) (a1 : Int) (a2 : Int) : Option (Int × Int) :=
  (m_gleemake_Stream_Flip a0_0 a0_1 12).bind fun y1 => ifB y1.1 ((m_gleemake_Stream_Pick a0_0 y1.2 [w64 (a1 - 1), w64 (a2 + 1), a1, a2, (-1099511627776), 1099511627776]).bind fun y3 => some (y3.1, y3.2)) ((m_gleemake_Stream_Range a0_0 y1.2 a1 a2).bind fun y4 => some (y4.1, y4.2))
def m_gleemake_Stream_AChord (a0_0 : (List Int)) (a0_1 : Int) : Option (TChord × Int) :=
  (m_gleemake_Stream_Flip a0_0 a0_1 40).bind fun y2 => ifB y2.1 ((m_gleemake_Stream_Odd a0_0 y2.2 0 11).bind fun y3 => (m_gleemake_Stream_Odd a0_0 y3.2 1 7).bind fun y4 => (m_gleemake_Stream_Odd a0_0 y4.2 0 3).bind fun y5 => some ((TChord.mk y3.1 y4.1 y5.1), y5.2)) ((m_gleemake_Stream_Range a0_0 y2.2 0 11).bind fun y6 => (m_gleemake_Stream_Range a0_0 y6.2 1 7).bind fun y7 => (m_gleemake_Stream_Pick a0_0 y7.2 [0, 0, 0, 1, 2]).bind fun y9 => some ((TChord.mk y6.1 y7.1 y9.1), y9.2))
def m_gleeref2_roots  : Option (List ByteArray) :=
  some [(ByteArray.mk [99].toArray), (ByteArray.mk [99, 35].toArray), (ByteArray.mk [100].toArray), (ByteArray.mk [100, 35].toArray), (ByteArray.mk [101].toArray), (ByteArray.mk [102].toArray), (ByteArray.mk [102, 35].toArray), (ByteArray.mk [103].toArray), (ByteArray.mk [103, 35].toArray), (ByteArray.mk [97].toArray), (ByteArray.mk [97, 35].toArray), (ByteArray.mk [98].toArray)]
def m_gleeref2_kinds  : Option (List ByteArray) :=
  some [ByteArray.empty, (ByteArray.mk [109, 97, 106].toArray), (ByteArray.mk [109, 105, 110].toArray), (ByteArray.mk [100, 105, 109].toArray), (ByteArray.mk [97, 117, 103].toArray), (ByteArray.mk [55].toArray), (ByteArray.mk [109, 97, 106, 55].toArray), (ByteArray.mk [109, 105, 110, 55].toArray)]
def m_gleeref2_NameOf (a0 : TChord) : Option ByteArray :=
  (m_gleeref2_roots.bind fun y5 => (getI y5 a0.Root).bind fun e7 => (catM e7 (ByteArray.mk [32].toArray)).bind fun c8 => m_gleeref2_kinds.bind fun y9 => (getI y9 a0.Kind).bind fun e11 => (catM c8 e11).bind fun c12 => some (.inl c12) : Option (ByteArray ⊕ ByteArray)).bind fun k4 => Sum.fin k4 fun u2 => ifB (decide (a0.Turn > 0)) ((m_strconv_Itoa a0.Turn).bind fun y17 => (catM (ByteArray.mk [47].toArray) y17).bind fun c18 => (catM u2 c18).bind fun c19 => some c19) (some u2)
def m_gleemake_Stream_Changed (a0_0 : (List Int)) (a0_1 : Int) (a1 : ByteArray) (a2 : ByteArray) : Option (ByteArray × Int) :=
  (ifB (a1.toList == ByteArray.empty.toList) (some (.inl true)) (some (.inl (a2.toList == ByteArray.empty.toList))) : Option (Bool ⊕ (ByteArray × Int))).bind fun k3 => Sum.fin k3 fun u1 => ifB u1 (some (a2, a0_1)) ((m_gleemake_Stream_Next a0_0 a0_1 (a1.size : Int)).bind fun y4 => (m_gleemake_Stream_Next a0_0 y4.2 (a2.size : Int)).bind fun y5 => (strI a2 y5.1).bind fun c6 => (m_gleemake_Stream_Next a0_0 y5.2 3).bind fun y7 => ifB (y7.1 == 0) ((strS a1 0 y4.1).bind fun c8 => (catM c8 (Utf8.encode (IntKind.wrap .i32 c6))).bind fun c9 => (strS a1 (w64 (y4.1 + 1)) (a1.size : Int)).bind fun c10 => (catM c9 c10).bind fun c11 => some (c11, y7.2)) (ifB (y7.1 == 1) ((strS a1 0 y4.1).bind fun c12 => (catM c12 (Utf8.encode (IntKind.wrap .i32 c6))).bind fun c13 => (strS a1 y4.1 (a1.size : Int)).bind fun c14 => (catM c13 c14).bind fun c15 => some (c15, y7.2)) ((strS a1 0 y4.1).bind fun c16 => (strS a1 (w64 (y4.1 + 1)) (a1.size : Int)).bind fun c17 => (catM c16 c17).bind fun c18 => some (c18, y7.2))))
def m_gleemake_Stream_ChordText_l1 (a0_0 : (List Int)) (i7 : Nat) (x8 : Nat) (u10 : (ByteArray × Int)) : Option (Flow (ByteArray × Int) (ByteArray × Int)) :=
  (m_gleemake_Stream_Changed a0_0 u10.2 u10.1 (ByteArray.mk [32, 35, 47, 48, 49, 50, 55, 97, 98, 109, 120].toArray)).bind fun y14 => some (.nxt (y14.1, y14.2))
def m_gleemake_Stream_ChordText (a0_0 : (List Int)) (a0_1 : Int) : Option (ByteArray × Int) :=
  (m_gleemake_Stream_Range a0_0 a0_1 0 11).bind fun y1 => (m_gleemake_Stream_Range a0_0 y1.2 1 7).bind fun y2 => (m_gleemake_Stream_Range a0_0 y2.2 0 2).bind fun y3 => (m_gleeref2_NameOf (TChord.mk y1.1 y2.1 y3.1)).bind fun y4 => (m_gleemake_Stream_Pick a0_0 y3.2 [0, 0, 0, 1, 2]).bind fun y6 => (rangeI y6.1).bind fun L15 => (rangeM (m_gleemake_Stream_ChordText_l1 a0_0) 0 L15 (y4, y6.2)).bind fun f13 => Flow.fin f13 fun u10 => some (u10.1, u10.2)
def m_kit_Outside (a0 : Int) (a1 : Int) (a2 : Int) : Option Bool :=
  ifB (decide (a0 < a1)) (some true) (some (decide (a0 > a2)))
def m_chord_isKind (a0 : Int) : Option Bool :=
  (m_kit_Outside a0 1 7).bind fun y1 => some (!y1)
def m_chord_above (a0 : Int) : Option (List Int) :=
  (getI [[], [0, 4, 7], [0, 3, 7], [0, 3, 6], [0, 4, 8], [0, 4, 7, 10], [0, 4, 7, 11], [0, 3, 7, 10]] a0).bind fun e12 => some e12
def m_chord_CheckChord (a0 : TChord) : Option Int :=
  (m_kit_Outside a0.Root 0 11).bind fun y2 => ifB y2 (some 1) ((m_chord_isKind a0.Kind).bind fun y3 => ifB (!y3) (some 4) ((m_chord_above a0.Kind).bind fun y4 => (m_kit_Outside a0.Turn 0 (w64 ((y4.length : Int) - 1))).bind fun y6 => ifB y6 (some 1) (some 0)))
def m_chord_tones_l1 (a0 : TChord) (y2 : (List Int)) (i4 : Nat) (x5 : Int) (u8 : (List Int)) : Option (Flow (List Int) (List Int)) :=
  (remM (w64 ((i4 : Int) + a0.Turn)) (y2.length : Int)).bind fun z13 => (getI y2 z13).bind fun e14 => (appM 8 u8 [(w64 (a0.Root + e14)).tmod 12]).bind fun q16 => some (.nxt q16)
def m_chord_tones (a0 : TChord) : Option (List Int) :=
  (m_chord_above a0.Kind).bind fun y2 => (rangeM (m_chord_tones_l1 a0 y2) 0 y2 []).bind fun f11 => Flow.fin f11 fun u8 => some u8
def m_chord_Tones (a0 : TChord) : Option ((List Int) × Int) :=
  (m_chord_CheckChord a0).bind fun y2 => ifB (y2 != 0) (some ([], y2)) ((m_chord_tones a0).bind fun y4 => some (y4, 0))
def m_chord_rootWords  : Option (List ByteArray) :=
  some [(ByteArray.mk [99].toArray), (ByteArray.mk [99, 35].toArray), (ByteArray.mk [100].toArray), (ByteArray.mk [100, 35].toArray), (ByteArray.mk [101].toArray), (ByteArray.mk [102].toArray), (ByteArray.mk [102, 35].toArray), (ByteArray.mk [103].toArray), (ByteArray.mk [103, 35].toArray), (ByteArray.mk [97].toArray), (ByteArray.mk [97, 35].toArray), (ByteArray.mk [98].toArray)]
def m_chord_kindWords  : Option (List ByteArray) :=
  some [ByteArray.empty, (ByteArray.mk [109, 97, 106].toArray), (ByteArray.mk [109, 105, 110].toArray), (ByteArray.mk [100, 105, 109].toArray), (ByteArray.mk [97, 117, 103].toArray), (ByteArray.mk [55].toArray), (ByteArray.mk [109, 97, 106, 55].toArray), (ByteArray.mk [109, 105, 110, 55].toArray)]
def m_chord_Name (a0 : TChord) : Option (ByteArray × Int) :=
  (m_chord_CheckChord a0).bind fun y2 => ifB (y2 != 0) (some (ByteArray.empty, y2)) ((m_chord_rootWords.bind fun y6 => (getI y6 a0.Root).bind fun e8 => (catM e8 (ByteArray.mk [32].toArray)).bind fun c9 => m_chord_kindWords.bind fun y10 => (getI y10 a0.Kind).bind fun e12 => (catM c9 e12).bind fun c13 => some (.inl c13) : Option (ByteArray ⊕ (ByteArray × Int))).bind fun k5 => Sum.fin k5 fun u3 => ifB (decide (a0.Turn > 0)) ((m_strconv_Itoa a0.Turn).bind fun y18 => (catM (ByteArray.mk [47].toArray) y18).bind fun c19 => (catM u3 c19).bind fun c20 => some (c20, 0)) (some (u3, 0)))
def m_stringslite_Index (a0 : ByteArray) (a1 : ByteArray) : Option Int :=
  (ifB ((a1.size : Int) == 0) (some (.inl true)) (some (.inl (a1.toList == a0.toList))) : Option (Bool ⊕ Int)).bind fun k3 => Sum.fin k3 fun u1 => ifB u1 (some 0) (ifB ((a1.size : Int) == 1) ((strI a1 0).bind fun c4 => (m_stringslite_IndexByte a0 c4).bind fun y5 => some y5) (ifB (decide ((a1.size : Int) ≥ (a0.size : Int))) (some (-1)) (none)))
def m_stringslite_Cut (a0 : ByteArray) (a1 : ByteArray) : Option (ByteArray × ByteArray × Bool) :=
  (m_stringslite_Index a0 a1).bind fun y1 => ifB (decide (y1 ≥ 0)) ((strS a0 0 y1).bind fun c2 => (strS a0 (w64 (y1 + (a1.size : Int))) (a0.size : Int)).bind fun c3 => some (c2, c3, true)) (some (a0, ByteArray.empty, false))
def m_strings_Cut (a0 : ByteArray) (a1 : ByteArray) : Option (ByteArray × ByteArray × Bool) :=
  (m_stringslite_Cut a0 a1).bind fun y1 => some (y1.1, y1.2.1, y1.2.2)
def m_slices_Index_string_string_l1 (a1 : ByteArray) (i1 : Nat) (x2 : ByteArray) (u4 : Unit) : Option (Flow Unit Int) :=
  ifB (a1.toList == x2.toList) (some (.ret (i1 : Int))) (some (.nxt ()))
def m_slices_Index_string_string (a0 : (List ByteArray)) (a1 : ByteArray) : Option Int :=
  (rangeM (m_slices_Index_string_string_l1 a1) 0 a0 ()).bind fun f7 => Flow.fin f7 fun u4 => some (-1)
def m_stringslite_HasPrefix (a0 : ByteArray) (a1 : ByteArray) : Option Bool :=
  ifB (decide ((a0.size : Int) ≥ (a1.size : Int))) ((strS a0 0 (a1.size : Int)).bind fun c1 => some (c1.toList == a1.toList)) (some false)
def m_stringslite_CutPrefix (a0 : ByteArray) (a1 : ByteArray) : Option (ByteArray × Bool) :=
  (m_stringslite_HasPrefix a0 a1).bind fun y1 => ifB (!y1) (some (a0, false)) ((strS a0 (a1.size : Int) (a0.size : Int)).bind fun c2 => some (c2, true))
def m_strings_CutPrefix (a0 : ByteArray) (a1 : ByteArray) : Option (ByteArray × Bool) :=
  (m_stringslite_CutPrefix a0 a1).bind fun y1 => some (y1.1, y1.2)
def m_kit_Number (a0 : ByteArray) (a1 : Int) : Option (Int × Bool) :=
  (m_strings_CutPrefix a0 (ByteArray.mk [45].toArray)).bind fun y1 => (ifB (y1.1.toList == ByteArray.empty.toList) (some (.inl true)) (ifB (decide ((y1.1.size : Int) > a1)) (some (.inl true)) ((m_strings_Trim y1.1 (ByteArray.mk [48, 49, 50, 51, 52, 53, 54, 55, 56, 57].toArray)).bind fun y5 => ifB (!(y5.toList == ByteArray.empty.toList)) (some (.inl true)) ((strI y1.1 0).bind fun c6 => ifB (c6 == 48) (ifB (decide ((y1.1.size : Int) > 1)) (some (.inl true)) (some (.inl y1.2))) (some (.inl false))))) : Option (Bool ⊕ (Int × Bool))).bind fun k4 => Sum.fin k4 fun u2 => ifB u2 (some (0, false)) ((m_strconv_Atoi y1.1).bind fun y7 => ifB y1.2 (some (w64 (0 - y7.1), true)) (some (y7.1, true)))
def m_chord_Parse (a0 : ByteArray) : Option (TChord × Int) :=
  (m_strings_Cut a0 (ByteArray.mk [32].toArray)).bind fun y2 => (m_strings_Cut y2.2.1 (ByteArray.mk [47].toArray)).bind fun y3 => m_chord_rootWords.bind fun y4 => (m_slices_Index_string_string y4 y2.1).bind fun y6 => m_chord_kindWords.bind fun y7 => (m_slices_Index_string_string y7 y3.1).bind fun y9 => (ifB (!y2.2.2) (some (.inl true)) (ifB (decide (y6 < 0)) (some (.inl true)) ((m_chord_isKind y9).bind fun y14 => some (.inl (!y14)))) : Option (Bool ⊕ (TChord × Int))).bind fun k13 => Sum.fin k13 fun u11 => ifB u11 (some ((TChord.mk 0 0 0), 9)) ((ifB y3.2.2 ((m_kit_Number y3.2.1 15).bind fun y18 => (ifB (!y18.2) (some (.inl true)) (some (.inl (decide (y18.1 < 1)))) : Option (Bool ⊕ (Int ⊕ (TChord × Int)))).bind fun k21 => Sum.fin k21 fun u19 => ifB u19 (some (.inr ((TChord.mk 0 0 0), 9))) (some (.inl y18.1))) (some (.inl 0)) : Option (Int ⊕ (TChord × Int))).bind fun k17 => Sum.fin k17 fun u15 => (m_chord_CheckChord (TChord.mk y6 y9 u15)).bind fun y22 => ifB (y22 != 0) (some ((TChord.mk 0 0 0), y22)) (some ((TChord.mk y6 y9 u15), 0)))
def m_gleeref2_in (a0 : Int) (a1 : Int) (a2 : Int) : Option Bool :=
  ifB (decide (a1 ≤ a0)) (some (decide (a0 ≤ a2))) (some false)
def m_gleeref2_kindTones (a0 : Int) : Option (List Int) :=
  (getI [[], [0, 4, 7], [0, 3, 7], [0, 3, 6], [0, 4, 8], [0, 4, 7, 10], [0, 4, 7, 11], [0, 3, 7, 10]] a0).bind fun e12 => some e12
def m_gleeref2_ChordFault (a0 : TChord) : Option Int :=
  (m_gleeref2_in a0.Root 0 11).bind fun y2 => ifB (!y2) (some 1) ((m_gleeref2_in a0.Kind 1 7).bind fun y3 => ifB (!y3) (some 4) ((m_gleeref2_kindTones a0.Kind).bind fun y4 => (m_gleeref2_in a0.Turn 0 (w64 ((y4.length : Int) - 1))).bind fun y6 => ifB (!y6) (some 1) (some 0)))
def m_gleeref2_TonesOf_l1 (a0 : TChord) (i4 : Nat) (x5 : Int) (u8 : (List Int)) : Option (Flow (List Int) (List Int)) :=
  (appM 8 u8 [(w64 (a0.Root + x5)).tmod 12]).bind fun q14 => some (.nxt q14)
def m_gleeref2_TonesOf (a0 : TChord) : Option (List Int) :=
  (m_gleeref2_kindTones a0.Kind).bind fun y2 => (rangeM (m_gleeref2_TonesOf_l1 a0) 0 y2 []).bind fun f11 => Flow.fin f11 fun u8 => (sliceI u8 a0.Turn (u8.length : Int)).bind fun q17 => (sliceI u8 0 a0.Turn).bind fun q18 => (appM 8 q17 q18).bind fun q19 => some q19
def m_stringslite_TrimPrefix (a0 : ByteArray) (a1 : ByteArray) : Option ByteArray :=
  (m_stringslite_HasPrefix a0 a1).bind fun y1 => ifB y1 ((strS a0 (a1.size : Int) (a0.size : Int)).bind fun c2 => some c2) (some a0)
def m_strings_TrimPrefix (a0 : ByteArray) (a1 : ByteArray) : Option ByteArray :=
  (m_stringslite_TrimPrefix a0 a1).bind fun y1 => some y1
def m_strings_IndexByte (a0 : ByteArray) (a1 : Int) : Option Int :=
  (m_stringslite_IndexByte a0 a1).bind fun y1 => some y1
def m_gleeref2_only_l1 (a0 : ByteArray) (a1 : ByteArray) (i1 : Nat) (x2 : Nat) (u4 : Unit) : Option (Flow Unit Bool) :=
  (strI a0 (i1 : Int)).bind fun c8 => (m_strings_IndexByte a1 c8).bind fun y9 => ifB (decide (y9 < 0)) (some (.ret false)) (some (.nxt ()))
def m_gleeref2_only (a0 : ByteArray) (a1 : ByteArray) : Option Bool :=
  (rangeI (a0.size : Int)).bind fun L10 => (rangeM (m_gleeref2_only_l1 a0 a1) 0 L10 ()).bind fun f7 => Flow.fin f7 fun u4 => some true
def m_gleeref2_Number (a0 : ByteArray) (a1 : Int) : Option (Int × Bool) :=
  (m_strings_TrimPrefix a0 (ByteArray.mk [45].toArray)).bind fun y1 => (ifB (y1.toList == ByteArray.empty.toList) (some (.inl true)) (ifB (decide ((y1.size : Int) > a1)) (some (.inl true)) ((m_gleeref2_only y1 (ByteArray.mk [48, 49, 50, 51, 52, 53, 54, 55, 56, 57].toArray)).bind fun y5 => some (.inl (!y5)))) : Option (Bool ⊕ (Int × Bool))).bind fun k4 => Sum.fin k4 fun u2 => ifB u2 (some (0, false)) ((m_strconv_Atoi a0).bind fun y6 => (m_strconv_Itoa y6.1).bind fun y7 => some (y6.1, y7.toList == a0.toList))
def m_gleeref2_ParsedOf (a0 : ByteArray) : Option (TChord × Int) :=
  (m_strings_Cut a0 (ByteArray.mk [32].toArray)).bind fun y2 => (m_strings_Cut y2.2.1 (ByteArray.mk [47].toArray)).bind fun y3 => m_gleeref2_roots.bind fun y4 => (m_slices_Index_string_string y4 y2.1).bind fun y6 => m_gleeref2_kinds.bind fun y7 => (m_slices_Index_string_string y7 y3.1).bind fun y9 => (ifB y3.2.2 ((m_gleeref2_Number y3.2.1 15).bind fun y14 => ifB y14.2 (some (.inl (decide (y14.1 > 0), y14.1))) (some (.inl (false, y14.1)))) (some (.inl (true, 0))) : Option ((Bool × Int) ⊕ (TChord × Int))).bind fun k13 => Sum.fin k13 fun u11 => (ifB (!y2.2.2) (some (.inl true)) (ifB (decide (y6 < 0)) (some (.inl true)) (ifB (decide (y9 < 1)) (some (.inl true)) (some (.inl (!u11.1))))) : Option (Bool ⊕ (TChord × Int))).bind fun k17 => Sum.fin k17 fun u15 => ifB u15 (some ((TChord.mk 0 0 0), 9)) ((m_gleeref2_ChordFault (TChord.mk y6 y9 u11.2)).bind fun y18 => ifB (y18 != 0) (some ((TChord.mk 0 0 0), y18)) (some ((TChord.mk y6 y9 u11.2), 0)))
def m_slices_Equal_int_int_l1 (a1 : (List Int)) (i1 : Nat) (x2 : Int) (u4 : Unit) : Option (Flow Unit Bool) :=
  (getI a1 (i1 : Int)).bind fun e8 => ifB (x2 != e8) (some (.ret false)) (some (.nxt ()))
def m_slices_Equal_int_int (a0 : (List Int)) (a1 : (List Int)) : Option Bool :=
  ifB ((a0.length : Int) != (a1.length : Int)) (some false) ((rangeM (m_slices_Equal_int_int_l1 a1) 0 a0 ()).bind fun f7 => Flow.fin f7 fun u4 => some true)
def m_gleelaw2_sounded  : Option Bool :=
  (m_chord_Name (TChord.mk 1 2 1)).bind fun y1 => ifB (y1.2 == 0) (some (y1.1.toList == (ByteArray.mk [99, 35, 32, 109, 105, 110, 47, 49].toArray).toList)) (some false)
def m_gleelaw2_ChordsNamed (a0 : (List Int)) : Option Bool :=
  (m_gleemake_Stream_AChord a0 0).bind fun y2 => (m_gleemake_Stream_ChordText a0 y2.2).bind fun y3 => (m_chord_Tones y2.1).bind fun y5 => (m_chord_Name y2.1).bind fun y7 => (m_chord_Parse y3.1).bind fun y8 => (m_gleeref2_ChordFault y2.1).bind fun y10 => (ifB (y10 == 0) ((m_gleeref2_TonesOf y2.1).bind fun y15 => (m_gleeref2_NameOf y2.1).bind fun y17 => some (.inl (y17, y15))) (some (.inl (ByteArray.empty, []))) : Option ((ByteArray × (List Int)) ⊕ Bool)).bind fun k14 => Sum.fin k14 fun u11 => (m_gleeref2_ParsedOf y3.1).bind fun y21 => (m_chord_CheckChord y2.1).bind fun y23 => ifB (y23 == y10) (ifB (y5.2 == y10) ((m_slices_Equal_int_int y5.1 u11.2).bind fun y24 => ifB y24 (ifB (y7.2 == y10) (ifB (y7.1.toList == u11.1.toList) (ifB (y8.2 == y21.2) (ifB (decide (y8.1 = y21.1)) (m_gleelaw2_sounded.bind fun y25 => some y25) (some false)) (some false)) (some false)) (some false)) (some false)) (some false)) (some false)
end
end Go.G
