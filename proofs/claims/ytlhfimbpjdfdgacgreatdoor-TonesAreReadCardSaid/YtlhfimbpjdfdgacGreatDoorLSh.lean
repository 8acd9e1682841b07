/- Plain laws of the models; no condition beyond what each theorem says. -/
import Derived.Test.YtlhfimbpjdfdgacGreatDoorM
import Derived.Lib.SplitLaws
namespace Go.G
open Go Go.J
set_option linter.unusedVariables false
noncomputable section
def m_gleeref2_textFault_l1 (a0 : ByteArray) (i5 : Nat) (x6 : Nat) (u8 : Unit) : Option (Flow Unit Bool) :=
 ((strI a0 (i5 : Int)).bind fun c15 => ifB (decide (c15 < 33)) (some (.inl true)) ((strI a0 (i5 : Int)).bind fun c16 => ifB (c16 == 127) (some (.inl true)) ((strI a0 (i5 : Int)).bind fun c17 => some (.inl (c17 == 124)))) : Option (Bool ⊕ (Flow Unit Bool))).bind fun k14 => Sum.fin k14 fun u12 => ifB u12 (some (.ret true)) (some (.nxt ()))
def m_gleeref2_textFault (a0 : ByteArray) : Option Bool :=
 ((m_utf8_ValidString a0).bind fun y4 => ifB (!y4) (some (.inl true)) (some (.inl (decide ((a0.size : Int) > 20)))) : Option (Bool ⊕ Bool)).bind fun k3 => Sum.fin k3 fun u1 => ifB u1 (some true) ((rangeI (a0.size : Int)).bind fun L18 => (rangeM (m_gleeref2_textFault_l1 a0) 0 L18 ()).bind fun f11 => Flow.fin f11 fun u8 => some false)
def m_gleeref2_toneFault (a0 : TTone) : Option Int :=
 (ifB (a0.Note != (-1)) ((m_gleeref2_in a0.Note 0 127).bind fun y5 => some (.inl (!y5))) (some (.inl false)) : Option (Bool ⊕ Int)).bind fun k4 => Sum.fin k4 fun u2 => ifB u2 (some 1) ((ifB (decide (a0.Long.Num < 1)) (some (.inl true)) (ifB (decide (a0.Long.Den < 1)) (some (.inl true)) ((m_gleeref2_divisor a0.Long.Num a0.Long.Den).bind fun y9 => some (.inl (y9 != 1)))) : Option (Bool ⊕ Int)).bind fun k8 => Sum.fin k8 fun u6 => ifB u6 (some 3) (((remM 192 a0.Long.Den).bind fun z13 => ifB (z13 != 0) (some (.inl true)) (some (.inl (decide (a0.Long.Num > (w64 (16 * a0.Long.Den)))))) : Option (Bool ⊕ Int)).bind fun k12 => Sum.fin k12 fun u10 => ifB u10 (some 1) ((m_gleeref2_textFault a0.Text).bind fun y14 => ifB y14 (some 3) ((ifB (a0.Note == (-1)) (ifB a0.Tied (some (.inl true)) (some (.inl (!(a0.Text.toList == ByteArray.empty.toList))))) (some (.inl false)) : Option (Bool ⊕ Int)).bind fun k17 => Sum.fin k17 fun u15 => ifB u15 (some 16) (some 0)))))
def m_gleeref2_tiesTo (a0 : TTone) (a1 : TTone) : Option Bool :=
 ifB (a0.Note == a1.Note) (some (a1.Text.toList == ByteArray.empty.toList)) (some false)
def m_gleeref2_fillFault_l2 (a1 : (List TTone)) (a2 : Bool) (i19 : Nat) (x20 : TTone) (u22 : Unit) : Option (Flow Unit Int) :=
 ifB x20.Tied (ifB ((i19 : Int) == (w64 ((a1.length : Int) - 1))) (ifB (!a2) (some (.ret 16)) (ifB (!((i19 : Int) == (w64 ((a1.length : Int) - 1)))) ((getI a1 (min (w64 ((i19 : Int) + 1)) (w64 ((a1.length : Int) - 1)))).bind fun e27 => (m_gleeref2_tiesTo x20 e27).bind fun y28 => ifB (!y28) (some (.ret 16)) (some (.nxt ()))) (some (.nxt ())))) (ifB (!((i19 : Int) == (w64 ((a1.length : Int) - 1)))) ((getI a1 (min (w64 ((i19 : Int) + 1)) (w64 ((a1.length : Int) - 1)))).bind fun e29 => (m_gleeref2_tiesTo x20 e29).bind fun y30 => ifB (!y30) (some (.ret 16)) (some (.nxt ()))) (some (.nxt ())))) (some (.nxt ()))
def m_gleeref2_fillFault_l1 (a0 : (List TBar)) (i1 : Nat) (x2 : TTone) (u4 : (Int × Int)) : Option (Flow (Int × Int) Int) :=
 (m_gleeref2_toneFault x2).bind fun y9 => ifB (y9 != 0) (some (.ret y9)) ((ifB (u4.2 == 0) (ifB ((w64 (u4.1 + 1)) == (a0.length : Int)) (some (.inr (.ret 16))) ((getI a0 (w64 (u4.1 + 1))).bind fun e13 => (m_gleeref2_barUnits e13).bind fun y14 => some (.inl (w64 (u4.1 + 1), y14)))) (some (.inl (u4.1, u4.2))) : Option ((Int × Int) ⊕ (Flow (Int × Int) Int))).bind fun k12 => Sum.fin k12 fun u10 => (m_gleeref2_units x2.Long).bind fun y15 => ifB (decide ((w64 (u10.2 - y15)) < 0)) (some (.ret 16)) (some (.nxt (u10.1, w64 (u10.2 - y15)))))
def m_gleeref2_fillFault (a0 : (List TBar)) (a1 : (List TTone)) (a2 : Bool) : Option Int :=
 ifB (decide ((a1.length : Int) > 2000)) (some 2) ((rangeM (m_gleeref2_fillFault_l1 a0) 0 a1 ((-1), 0)).bind fun f7 => Flow.fin f7 fun u4 => (ifB (u4.2 != 0) (some (.inl true)) (some (.inl (u4.1 != (w64 ((a0.length : Int) - 1))))) : Option (Bool ⊕ Int)).bind fun k18 => Sum.fin k18 fun u16 => ifB u16 (some 3) ((rangeM (m_gleeref2_fillFault_l2 a1 a2) 0 a1 ()).bind fun f25 => Flow.fin f25 fun u22 => some 0))
def m_stringslite_TrimPrefix (a0 : ByteArray) (a1 : ByteArray) : Option ByteArray :=
 (m_stringslite_HasPrefix a0 a1).bind fun y1 => ifB y1 ((strS a0 (a1.size : Int) (a0.size : Int)).bind fun c2 => some c2) (some a0)
def m_strings_TrimPrefix (a0 : ByteArray) (a1 : ByteArray) : Option ByteArray :=
 (m_stringslite_TrimPrefix a0 a1).bind fun y1 => some y1
def m_gleeref2_only_l1 (a0 : ByteArray) (a1 : ByteArray) (i1 : Nat) (x2 : Nat) (u4 : Unit) : Option (Flow Unit Bool) :=
 (strI a0 (i1 : Int)).bind fun c8 => (m_strings_IndexByte a1 c8).bind fun y9 => ifB (decide (y9 < 0)) (some (.ret false)) (some (.nxt ()))
def m_gleeref2_only (a0 : ByteArray) (a1 : ByteArray) : Option Bool :=
 (rangeI (a0.size : Int)).bind fun L10 => (rangeM (m_gleeref2_only_l1 a0 a1) 0 L10 ()).bind fun f7 => Flow.fin f7 fun u4 => some true
def m_gleeref2_Number (a0 : ByteArray) (a1 : Int) : Option (Int × Bool) :=
 (m_strings_TrimPrefix a0 (ByteArray.mk [45].toArray)).bind fun y1 => (ifB (y1.toList == ByteArray.empty.toList) (some (.inl true)) (ifB (decide ((y1.size : Int) > a1)) (some (.inl true)) ((m_gleeref2_only y1 (ByteArray.mk [48, 49, 50, 51, 52, 53, 54, 55, 56, 57].toArray)).bind fun y5 => some (.inl (!y5)))) : Option (Bool ⊕ (Int × Bool))).bind fun k4 => Sum.fin k4 fun u2 => ifB u2 (some (0, false)) ((m_strconv_Atoi a0).bind fun y6 => (m_strconv_Itoa y6.1).bind fun y7 => some (y6.1, y7.toList == a0.toList))
end
end Go.G
