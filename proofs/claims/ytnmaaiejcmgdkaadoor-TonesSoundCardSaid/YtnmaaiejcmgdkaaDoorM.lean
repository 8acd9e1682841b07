/- The models. Written by program. -/
import Derived.Test.YtnmaaiejcmgdkaaDoorXMB
namespace Go.G
open Go Go.J
set_option linter.unusedVariables false
noncomputable section
structure Tgleemake_Stream where
  L : (List Int)
  at_ : Int
  deriving DecidableEq, Inhabited
structure TFraction where
  Num : Int
  Den : Int
  deriving DecidableEq, Inhabited
structure TTone where
  Note : Int
  Long : TFraction
  Text : ByteArray
  Tied : Bool
  deriving DecidableEq, Inhabited
structure TRange where
  Low : Int
  High : Int
  deriving DecidableEq, Inhabited
structure TBar where
  Beats : Int
  Unit : Int
  Close : Int
  Ending : Int
  Open : Bool
  deriving DecidableEq, Inhabited
structure Tpiece_repeat where
  from_ : Int
  to_ : Int
  times : Int
  deriving DecidableEq, Inhabited
def m_gleemake_Below (a0 : Int) (a1 : Int) : Option Int :=
  ifB (decide (a1 < 1)) (some 0) ((remM a0 a1).bind fun z1 => ifB (decide (z1 < 0)) (some (w64 (z1 + a1))) (some z1))
def m_gleemake_Stream_Next (a0_0 : (List Int)) (a0_1 : Int) (a1 : Int) : Option (Int × Int) :=
  ifB ((a0_0.length : Int) == 0) ((m_gleemake_Below (w64 ((w64 (a0_1 + 1)) * 7919)) a1).bind fun y1 => some (y1, w64 (a0_1 + 1))) ((remM (w64 ((w64 (a0_1 + 1)) - 1)) (a0_0.length : Int)).bind fun z2 => (quoM (w64 ((w64 (a0_1 + 1)) - 1)) (a0_0.length : Int)).bind fun z3 => (getI a0_0 z2).bind fun e4 => (m_gleemake_Below e4 1073741824).bind fun y5 => (m_gleemake_Below (w64 (y5 + (w64 (z3 * (w64 (7919 + z2)))))) a1).bind fun y6 => some (y6, w64 (a0_1 + 1)))
def m_gleemake_Stream_Range (a0_0 : (List Int)) (a0_1 : Int) (a1 : Int) (a2 : Int) : Option (Int × Int) :=
  ifB (decide (a2 < a1)) (some (a1, a0_1)) ((m_gleemake_Stream_Next a0_0 a0_1 (w64 ((w64 (a2 - a1)) + 1))).bind fun y1 => some (w64 (a1 + y1.1), y1.2))
def m_gleemake_Stream_Flip (a0_0 : (List Int)) (a0_1 : Int) (a1 : Int) : Option (Bool × Int) :=
  (m_gleemake_Stream_Next a0_0 a0_1 a1).bind fun y1 => some (y1.1 == 0, y1.2)
def m_gleemake_Stream_Pick (a0_0 : (List Int)) (a0_1 : Int) (a1 : (List Int)) : Option (Int × Int) :=
  (m_gleemake_Stream_Next a0_0 a0_1 (a1.length : Int)).bind fun y1 => (getI a1 y1.1).bind fun e2 => some (e2, y1.2)
def m_gleemake_Stream_RightBars_1 (a0_0_0 : (List Int)) (a0_0_1 : Int) : Option (TBar × Int) :=
  ((m_gleemake_Stream_Pick a0_0_0 a0_0_1 [1, 2, 3, 4]).bind fun y6 => (m_gleemake_Stream_Pick a0_0_0 y6.2 [4, 4, 2, 8]).bind fun y8 => some (.inl (y8.2, y6.1, y8.1)) : Option ((Int × Int × Int) ⊕ (TBar × Int))).bind fun k4 => Sum.fin k4 fun u2 => some ((TBar.mk u2.2.1 u2.2.2 0 0 false), u2.1)
def m_gleemake_Stream_RightBars_l2 (a0_0 : (List Int)) (y17 : (Int × Int)) (y18 : (Int × Int)) (i19 : Nat) (x20 : Nat) (u22 : (Int × Int × (List TBar))) : Option (Flow (Int × Int × (List TBar)) (Flow (Int × (List TBar)) ((List TBar) × Int))) :=
  (m_gleemake_Stream_RightBars_1 a0_0 u22.2.1).bind fun y27 => (ifB (decide ((i19 : Int) > 0)) ((m_gleemake_Stream_Flip a0_0 y27.2 2).bind fun y32 => some (.inl (y32.1, y32.2))) (some (.inl (false, y27.2))) : Option ((Bool × Int) ⊕ (Flow (Int × Int × (List TBar)) (Flow (Int × (List TBar)) ((List TBar) × Int))))).bind fun k31 => Sum.fin k31 fun u29 => (ifB u29.1 (some (.inl (min y18.1 (w64 (u22.1 + 1))))) (some (.inl u22.1)) : Option (Int ⊕ (Flow (Int × Int × (List TBar)) (Flow (Int × (List TBar)) ((List TBar) × Int))))).bind fun k35 => Sum.fin k35 fun u33 => (ifB ((i19 : Int) == (w64 (y17.1 - 1))) (some (.inl y18.1)) (some (.inl y27.1.Close)) : Option (Int ⊕ (Flow (Int × Int × (List TBar)) (Flow (Int × (List TBar)) ((List TBar) × Int))))).bind fun k38 => Sum.fin k38 fun u36 => (appM 40 u22.2.2 [(TBar.mk y27.1.Beats y27.1.Unit u36 u33 ((i19 : Int) == 0))]).bind fun q40 => some (.nxt (u33, u29.2, q40))
def m_gleemake_Stream_RightBars_l1 (a0_0 : (List Int)) (i3 : Nat) (x4 : Nat) (u7 : (Int × (List TBar))) : Option (Flow (Int × (List TBar)) ((List TBar) × Int)) :=
  (m_gleemake_Stream_Flip a0_0 u7.1 2).bind fun y12 => ifB (!y12.1) ((m_gleemake_Stream_RightBars_1 a0_0 y12.2).bind fun y13 => (appM 40 u7.2 [y13.1]).bind fun q15 => some (.nxt (y13.2, q15))) ((m_gleemake_Stream_Range a0_0 y12.2 1 3).bind fun y17 => (m_gleemake_Stream_Range a0_0 y17.2 2 3).bind fun y18 => (rangeI y17.1).bind fun L43 => (rangeM (m_gleemake_Stream_RightBars_l2 a0_0 y17 y18) 0 L43 (0, y18.2, u7.2)).bind fun f25 => Flow.fin f25 fun u22 => some (.nxt (u22.2.1, u22.2.2)))
def m_gleemake_Stream_RightBars (a0_0 : (List Int)) (a0_1 : Int) : Option ((List TBar) × Int) :=
  (m_gleemake_Stream_Range a0_0 a0_1 1 4).bind fun y2 => (rangeI y2.1).bind fun L45 => (rangeM (m_gleemake_Stream_RightBars_l1 a0_0) 0 L45 (y2.2, [])).bind fun f10 => Flow.fin f10 fun u7 => some (u7.2, u7.1)
def m_gleemake_Stream_Odd (a0_0 : (List Int)) (a0_1 : Int) (a1 : Int) (a2 : Int) : Option (Int × Int) :=
  (m_gleemake_Stream_Flip a0_0 a0_1 12).bind fun y1 => ifB y1.1 ((m_gleemake_Stream_Pick a0_0 y1.2 [w64 (a1 - 1), w64 (a2 + 1), a1, a2, (-1099511627776), 1099511627776]).bind fun y3 => some (y3.1, y3.2)) ((m_gleemake_Stream_Range a0_0 y1.2 a1 a2).bind fun y4 => some (y4.1, y4.2))
def m_gleemake_Stream_Bars (a0_0 : (List Int)) (a0_1 : Int) : Option ((List TBar) × Int) :=
  (m_gleemake_Stream_RightBars a0_0 a0_1).bind fun y1 => (m_gleemake_Stream_Flip a0_0 y1.2 10).bind fun y3 => (ifB y3.1 ((m_gleemake_Stream_Next a0_0 y3.2 (y1.1.length : Int)).bind fun y8 => (getI y1.1 y8.1).bind fun e9 => (m_gleemake_Stream_Next a0_0 y8.2 4).bind fun y10 => ifB (y10.1 == 0) ((m_gleemake_Stream_Odd a0_0 y10.2 1 16).bind fun y11 => (m_gleemake_Stream_Pick a0_0 y11.2 [4, 3, 0, 32]).bind fun y13 => some (.inl (y13.2, ((y1.1.set y8.1.toNat (TBar.mk y11.1 e9.Unit e9.Close e9.Ending e9.Open)).set y8.1.toNat (TBar.mk y11.1 y13.1 e9.Close e9.Ending e9.Open))))) (ifB (y10.1 == 1) (some (.inl (y10.2, (y1.1.set y8.1.toNat (TBar.mk e9.Beats e9.Unit e9.Close e9.Ending (!e9.Open)))))) (ifB (y10.1 == 2) ((m_gleemake_Stream_Pick a0_0 y10.2 [0, 1, 2, 9, 10]).bind fun y15 => some (.inl (y15.2, (y1.1.set y8.1.toNat (TBar.mk e9.Beats e9.Unit y15.1 e9.Ending e9.Open))))) ((m_gleemake_Stream_Pick a0_0 y10.2 [0, 1, 5, 9, (-1)]).bind fun y17 => some (.inl (y17.2, (y1.1.set y8.1.toNat (TBar.mk e9.Beats e9.Unit e9.Close y17.1 e9.Open)))))))) (some (.inl (y3.2, y1.1))) : Option ((Int × (List TBar)) ⊕ ((List TBar) × Int))).bind fun k7 => Sum.fin k7 fun u4 => (m_gleemake_Stream_Flip a0_0 u4.1 60).bind fun y18 => ifB y18.1 (some ([], y18.2)) (some (u4.2, y18.2))
def m_gleeref2_divisor_l1  (u1 : (Int × Int)) : Option (Flow (Int × Int) Int) :=
  ifB (u1.2 != 0) ((remM u1.1 u1.2).bind fun z5 => some (.nxt (u1.2, z5))) (some (.brk (u1.1, u1.2)))
def m_gleeref2_divisor (a0 : Int) (a1 : Int) : Option Int :=
  (loopM m_gleeref2_divisor_l1 (a0, a1)).bind fun f4 => Flow.fin f4 fun u1 => some (max u1.1 (w64 (0 - u1.1)))
def m_gleeref2_Lowest (a0 : Int) (a1 : Int) : Option TFraction :=
  (m_gleeref2_divisor a0 a1).bind fun y2 => (quoM a0 y2).bind fun z3 => (quoM a1 y2).bind fun z4 => some (TFraction.mk z3 z4)
def m_gleemake_Stream_Some (a0_0 : (List Int)) (a0_1 : Int) (a1 : (List ByteArray)) : Option (ByteArray × Int) :=
  (m_gleemake_Stream_Next a0_0 a0_1 (a1.length : Int)).bind fun y1 => (getI a1 y1.1).bind fun e2 => some (e2, y1.2)
def m_gleemake_Stream_TonesFor_l2 (a0_0 : (List Int)) (u12 : (Int × Int × (List TTone))) : Option (Flow (Int × Int × (List TTone)) (Flow (Int × (List TTone)) ((List TTone) × Int))) :=
  ifB (decide (u12.1 > 0)) ((m_gleemake_Stream_Pick a0_0 u12.2.1 [24, 48, 48, 64, 96, 192]).bind fun y18 => (m_gleemake_Stream_Pick a0_0 y18.2 [60, 60, 62, 64, 67, 48, (-1)]).bind fun y20 => (m_gleeref2_Lowest (min u12.1 y18.1) 192).bind fun y21 => (ifB (y20.1 != (-1)) ((m_gleemake_Stream_Some a0_0 y20.2 [ByteArray.empty, ByteArray.empty, (ByteArray.mk [97].toArray), (ByteArray.mk [71, 108, 111, 45].toArray), (ByteArray.mk [114, 105, 45].toArray), (ByteArray.mk [195, 169].toArray), (ByteArray.mk [45].toArray)]).bind fun y27 => some (.inl (y27.2, y27.1))) (some (.inl (y20.2, ByteArray.empty))) : Option ((Int × ByteArray) ⊕ (Flow (Int × Int × (List TTone)) (Flow (Int × (List TTone)) ((List TTone) × Int))))).bind fun k25 => Sum.fin k25 fun u23 => (ifB (decide ((w64 ((u12.2.2.length : Int) - 1)) ≥ 0)) ((getI u12.2.2 (w64 ((u12.2.2.length : Int) - 1))).bind fun e31 => ifB (e31.Note == y20.1) (ifB (y20.1 != (-1)) ((m_gleemake_Stream_Flip a0_0 u23.1 2).bind fun y32 => some (.inl (y32.1, y32.2))) (some (.inl (false, u23.1)))) (some (.inl (false, u23.1)))) (some (.inl (false, u23.1))) : Option ((Bool × Int) ⊕ (Flow (Int × Int × (List TTone)) (Flow (Int × (List TTone)) ((List TTone) × Int))))).bind fun k30 => Sum.fin k30 fun u28 => (ifB u28.1 ((getI u12.2.2 (w64 ((u12.2.2.length : Int) - 1))).bind fun e37 => some (.inl (ByteArray.empty, (u12.2.2.set ((w64 ((u12.2.2.length : Int) - 1)).toNat) (TTone.mk e37.Note e37.Long e37.Text true))))) (some (.inl (u23.2, u12.2.2))) : Option ((ByteArray × (List TTone)) ⊕ (Flow (Int × Int × (List TTone)) (Flow (Int × (List TTone)) ((List TTone) × Int))))).bind fun k36 => Sum.fin k36 fun u33 => (appM 48 u33.2 [(TTone.mk y20.1 y21 u33.1 false)]).bind fun q39 => some (.nxt (w64 (u12.1 - (min u12.1 y18.1)), u28.2, q39))) (some (.brk (u12.1, u12.2.1, u12.2.2)))
def m_gleemake_Stream_TonesFor_l1 (a0_0 : (List Int)) (i1 : Nat) (x2 : TBar) (u5 : (Int × (List TTone))) : Option (Flow (Int × (List TTone)) ((List TTone) × Int)) :=
  (quoM (w64 ((max 1 (min x2.Beats 16)) * 192)) (max 1 (min x2.Unit 16))).bind fun z11 => (loopM (m_gleemake_Stream_TonesFor_l2 a0_0) (z11, u5.1, u5.2)).bind fun f15 => Flow.fin f15 fun u12 => some (.nxt (u12.2.1, u12.2.2))
def m_gleemake_Stream_TonesFor (a0_0 : (List Int)) (a0_1 : Int) (a1 : (List TBar)) : Option ((List TTone) × Int) :=
  (rangeM (m_gleemake_Stream_TonesFor_l1 a0_0) 0 a1 (a0_1, [])).bind fun f8 => Flow.fin f8 fun u5 => some (u5.2, u5.1)
def m_gleemake_Stream_Tones (a0_0 : (List Int)) (a0_1 : Int) (a1 : (List TBar)) : Option ((List TTone) × Int) :=
  (m_gleemake_Stream_TonesFor a0_0 a0_1 a1).bind fun y1 => (ifB (decide ((y1.1.length : Int) > 0)) ((m_gleemake_Stream_Flip a0_0 y1.2 10).bind fun y6 => some (.inl (y6.1, y6.2))) (some (.inl (false, y1.2))) : Option ((Bool × Int) ⊕ ((List TTone) × Int))).bind fun k5 => Sum.fin k5 fun u3 => ifB u3.1 ((m_gleemake_Stream_Next a0_0 u3.2 (y1.1.length : Int)).bind fun y7 => (getI y1.1 y7.1).bind fun e8 => (m_gleemake_Stream_Next a0_0 y7.2 5).bind fun y9 => ifB (y9.1 == 0) ((m_gleemake_Stream_Odd a0_0 y9.2 (-1) 127).bind fun y10 => some ((y1.1.set y7.1.toNat (TTone.mk y10.1 e8.Long e8.Text e8.Tied)), y10.2)) (ifB (y9.1 == 1) ((m_gleemake_Stream_Next a0_0 y9.2 8).bind fun y12 => (getI [(TFraction.mk 2 4), (TFraction.mk 1 0), (TFraction.mk 17 1), (TFraction.mk 1 5), (TFraction.mk 1 192), (TFraction.mk (-1) (-4)), (TFraction.mk 4611686018427387904 3), (TFraction.mk (-9223372036854775808) 1)] y12.1).bind fun e13 => some ((y1.1.set y7.1.toNat (TTone.mk e8.Note e13 e8.Text e8.Tied)), y12.2)) (ifB (y9.1 == 2) ((m_gleemake_Stream_Some a0_0 y9.2 [(ByteArray.mk [120, 32, 121].toArray), (ByteArray.mk [97, 124, 98].toArray), (ByteArray.mk [255].toArray), (ByteArray.mk [49, 50, 51, 52, 53, 54, 55, 56, 57, 48, 49, 50, 51, 52, 53, 54, 55, 56, 57, 48, 49].toArray), (ByteArray.mk [97, 10].toArray), (ByteArray.mk [111, 107].toArray)]).bind fun y15 => some ((y1.1.set y7.1.toNat (TTone.mk e8.Note e8.Long y15.1 e8.Tied)), y15.2)) (ifB (y9.1 == 3) (some ((y1.1.set y7.1.toNat (TTone.mk e8.Note e8.Long e8.Text (!e8.Tied))), y9.2)) ((sliceI y1.1 0 (w64 ((y1.1.length : Int) - 1))).bind fun q16 => some (q16, y9.2)))))) (some (y1.1, u3.2))
def m_kit_Outside (a0 : Int) (a1 : Int) (a2 : Int) : Option Bool :=
  ifB (decide (a0 < a1)) (some true) (some (decide (a0 > a2)))
def m_slices_Index_int_int_l1 (a1 : Int) (i1 : Nat) (x2 : Int) (u4 : Unit) : Option (Flow Unit Int) :=
  ifB (a1 == x2) (some (.ret (i1 : Int))) (some (.nxt ()))
def m_slices_Index_int_int (a0 : (List Int)) (a1 : Int) : Option Int :=
  (rangeM (m_slices_Index_int_int_l1 a1) 0 a0 ()).bind fun f7 => Flow.fin f7 fun u4 => some (-1)
def m_slices_Contains_int_int (a0 : (List Int)) (a1 : Int) : Option Bool :=
  (m_slices_Index_int_int a0 a1).bind fun y1 => some (decide (y1 ≥ 0))
def m_piece_isUnit (a0 : Int) : Option Bool :=
  (m_slices_Contains_int_int [1, 2, 4, 8, 16] a0).bind fun y2 => some y2
def m_piece_barFault (a0 : TBar) : Option Int :=
  ((m_kit_Outside a0.Beats 1 16).bind fun y5 => ifB y5 (some (.inl true)) ((m_piece_isUnit a0.Unit).bind fun y6 => ifB (!y6) (some (.inl true)) (ifB (a0.Close != 0) ((m_kit_Outside a0.Close 2 9).bind fun y7 => ifB y7 (some (.inl true)) ((m_kit_Outside a0.Ending 0 9).bind fun y8 => some (.inl y8))) ((m_kit_Outside a0.Ending 0 9).bind fun y9 => some (.inl y9)))) : Option (Bool ⊕ Int)).bind fun k4 => Sum.fin k4 fun u2 => ifB u2 (some 1) (some 0)
def m_piece_rulesFault_l1 (a0 : (List TBar)) (i1 : Nat) (x2 : TBar) (u4 : Bool) : Option (Flow Bool Int) :=
  (m_piece_barFault x2).bind fun y9 => ifB (y9 != 0) (some (.ret y9)) ((ifB x2.Open (some (.inl u4)) (some (.inl false)) : Option (Bool ⊕ (Flow Bool Int))).bind fun k12 => Sum.fin k12 fun u10 => ifB u10 (some (.ret 16)) ((ifB (!x2.Open) (ifB (!u4) (ifB (x2.Close != 0) (some (.inl true)) (some (.inl (x2.Ending != 0)))) (some (.inl false))) (some (.inl false)) : Option (Bool ⊕ (Flow Bool Int))).bind fun k15 => Sum.fin k15 fun u13 => ifB u13 (some (.ret 16)) (ifB u4 ((getI a0 (w64 ((i1 : Int) - 1))).bind fun e16 => ifB (decide (x2.Ending < e16.Ending)) (some (.ret 16)) (ifB u4 (some (.nxt (x2.Close == 0))) (ifB x2.Open (some (.nxt (x2.Close == 0))) (some (.nxt false))))) (ifB u4 (some (.nxt (x2.Close == 0))) (ifB x2.Open (some (.nxt (x2.Close == 0))) (some (.nxt false)))))))
def m_piece_rulesFault (a0 : (List TBar)) : Option Int :=
  (rangeM (m_piece_rulesFault_l1 a0) 0 a0 false).bind fun f7 => Flow.fin f7 fun u4 => some 0
def m_piece_repeats_l3 (x22 : Tpiece_repeat) (i30 : Nat) (x31 : TBar) (u33 : Unit) : Option (Flow Unit (Flow Unit ((List Tpiece_repeat) × Bool))) :=
  (ifB (decide (x22.times > 1)) (some (.inl (decide (x31.Ending > x22.times)))) (some (.inl false)) : Option (Bool ⊕ (Flow Unit (Flow Unit ((List Tpiece_repeat) × Bool))))).bind fun k40 => Sum.fin k40 fun u38 => ifB u38 (some (.ret (.ret ([], false)))) (some (.nxt ()))
def m_piece_repeats_l2 (a0 : (List TBar)) (i21 : Nat) (x22 : Tpiece_repeat) (u24 : Unit) : Option (Flow Unit ((List Tpiece_repeat) × Bool)) :=
  (sliceI a0 x22.from_ x22.to_).bind fun q29 => (rangeM (m_piece_repeats_l3 x22) 0 q29 ()).bind fun f36 => Flow.fin f36 fun u33 => some (.nxt ())
def m_piece_repeats_l1  (i1 : Nat) (x2 : TBar) (u5 : (Int × (List Tpiece_repeat))) : Option (Flow (Int × (List Tpiece_repeat)) ((List Tpiece_repeat) × Bool)) :=
  (ifB x2.Open (some (.inl (i1 : Int))) (some (.inl u5.1)) : Option (Int ⊕ (Flow (Int × (List Tpiece_repeat)) ((List Tpiece_repeat) × Bool)))).bind fun k13 => Sum.fin k13 fun u11 => ifB (decide (u11 < 0)) ((appM 24 u5.2 [(Tpiece_repeat.mk (i1 : Int) (w64 ((i1 : Int) + 1)) 1)]).bind fun q15 => some (.nxt (u11, q15))) (ifB (decide (x2.Close > 0)) ((appM 24 u5.2 [(Tpiece_repeat.mk u11 (w64 ((i1 : Int) + 1)) x2.Close)]).bind fun q18 => some (.nxt ((-1), q18))) (some (.nxt (u11, u5.2))))
def m_piece_repeats (a0 : (List TBar)) : Option ((List Tpiece_repeat) × Bool) :=
  (rangeM m_piece_repeats_l1 0 a0 ((-1), [])).bind fun f8 => Flow.fin f8 fun u5 => (rangeM (m_piece_repeats_l2 a0) 0 u5.2 ()).bind fun f27 => Flow.fin f27 fun u24 => some (u5.2, decide (u5.1 < 0))
def m_piece_order_l3 (a0 : (List TBar)) (a2 : Int) (x2 : Tpiece_repeat) (u11 : (Int × (List Int))) (u16 : (Int × (List Int))) : Option (Flow (Int × (List Int)) (Flow (Int × (List Int)) (Flow (List Int) (List Int)))) :=
  (ifB (decide (u16.1 < x2.to_)) (some (.inl (decide ((u16.2.length : Int) ≤ a2)))) (some (.inl false)) : Option (Bool ⊕ (Flow (Int × (List Int)) (Flow (Int × (List Int)) (Flow (List Int) (List Int)))))).bind fun k23 => Sum.fin k23 fun u21 => ifB u21 (((getI a0 u16.1).bind fun e27 => ifB (e27.Ending == 0) (some (.inl true)) ((getI a0 u16.1).bind fun e28 => some (.inl (e28.Ending == u11.1))) : Option (Bool ⊕ (Flow (Int × (List Int)) (Flow (Int × (List Int)) (Flow (List Int) (List Int)))))).bind fun k26 => Sum.fin k26 fun u24 => ifB u24 ((appM 8 u16.2 [u16.1]).bind fun q30 => some (.nxt (w64 (u16.1 + 1), q30))) (some (.nxt (w64 (u16.1 + 1), u16.2)))) (some (.brk (u16.1, u16.2)))
def m_piece_order_l2 (a0 : (List TBar)) (a2 : Int) (x2 : Tpiece_repeat) (u11 : (Int × (List Int))) : Option (Flow (Int × (List Int)) (Flow (List Int) (List Int))) :=
  ifB (decide (u11.1 ≤ x2.times)) ((loopM (m_piece_order_l3 a0 a2 x2 u11) (x2.from_, u11.2)).bind fun f19 => Flow.fin f19 fun u16 => some (.nxt (w64 (u11.1 + 1), u16.2))) (some (.brk (u11.1, u11.2)))
def m_piece_order_l1 (a0 : (List TBar)) (a2 : Int) (i1 : Nat) (x2 : Tpiece_repeat) (u5 : (List Int)) : Option (Flow (List Int) (List Int)) :=
  (loopM (m_piece_order_l2 a0 a2 x2) (1, u5)).bind fun f14 => Flow.fin f14 fun u11 => some (.nxt u11.2)
def m_piece_order (a0 : (List TBar)) (a1 : (List Tpiece_repeat)) (a2 : Int) : Option (List Int) :=
  (rangeM (m_piece_order_l1 a0 a2) 0 a1 []).bind fun f8 => Flow.fin f8 fun u5 => some u5
def m_piece_CheckBars (a0 : (List TBar)) : Option Int :=
  ifB ((a0.length : Int) == 0) (some 8) (ifB (decide ((a0.length : Int) > 300)) (some 2) ((m_piece_rulesFault a0).bind fun y1 => ifB (y1 != 0) (some y1) ((m_piece_repeats a0).bind fun y2 => ifB (!y2.2) (some 16) ((m_piece_order a0 y2.1 2000).bind fun y4 => ifB (decide ((y4.length : Int) > 2000)) (some 2) (some 0)))))
def m_piece_isLowest_l1  (u2 : (Int × Int)) : Option (Flow (Int × Int) Bool) :=
  ifB (u2.2 != 0) ((remM u2.1 u2.2).bind fun z6 => some (.nxt (u2.2, z6))) (some (.brk (u2.1, u2.2)))
def m_piece_isLowest (a0 : TFraction) : Option Bool :=
  (loopM m_piece_isLowest_l1 (a0.Num, a0.Den)).bind fun f5 => Flow.fin f5 fun u2 => ifB (decide (a0.Den > 0)) (ifB (u2.1 == 1) (some true) (some (u2.1 == (-1)))) (some false)
def m_piece_isText_l1 (a0 : ByteArray) (i5 : Nat) (x6 : Nat) (u8 : Unit) : Option (Flow Unit Bool) :=
  ((strI a0 (i5 : Int)).bind fun c15 => ifB (decide (c15 < 33)) (some (.inl true)) ((strI a0 (i5 : Int)).bind fun c16 => ifB (c16 == 127) (some (.inl true)) ((strI a0 (i5 : Int)).bind fun c17 => some (.inl (c17 == 124)))) : Option (Bool ⊕ (Flow Unit Bool))).bind fun k14 => Sum.fin k14 fun u12 => ifB u12 (some (.ret false)) (some (.nxt ()))
def m_piece_isText (a0 : ByteArray) : Option Bool :=
  (ifB (decide ((a0.size : Int) > 20)) (some (.inl true)) ((m_utf8_ValidString a0).bind fun y4 => some (.inl (!y4))) : Option (Bool ⊕ Bool)).bind fun k3 => Sum.fin k3 fun u1 => ifB u1 (some false) ((rangeI (a0.size : Int)).bind fun L18 => (rangeM (m_piece_isText_l1 a0) 0 L18 ()).bind fun f11 => Flow.fin f11 fun u8 => some true)
def m_piece_toneFault (a0 : TTone) : Option Int :=
  (ifB (a0.Note != (-1)) ((m_kit_Outside a0.Note 0 127).bind fun y5 => some (.inl y5)) (some (.inl false)) : Option (Bool ⊕ Int)).bind fun k4 => Sum.fin k4 fun u2 => ifB u2 (some 1) ((ifB (decide (a0.Long.Num < 1)) (some (.inl true)) ((m_piece_isLowest a0.Long).bind fun y9 => some (.inl (!y9))) : Option (Bool ⊕ Int)).bind fun k8 => Sum.fin k8 fun u6 => ifB u6 (some 3) (((remM 192 a0.Long.Den).bind fun z13 => ifB (z13 != 0) (some (.inl true)) (some (.inl (decide (a0.Long.Num > (w64 (16 * a0.Long.Den)))))) : Option (Bool ⊕ Int)).bind fun k12 => Sum.fin k12 fun u10 => ifB u10 (some 1) ((m_piece_isText a0.Text).bind fun y14 => ifB (!y14) (some 3) ((ifB (a0.Note == (-1)) (ifB a0.Tied (some (.inl true)) (some (.inl (!(a0.Text.toList == ByteArray.empty.toList))))) (some (.inl false)) : Option (Bool ⊕ Int)).bind fun k17 => Sum.fin k17 fun u15 => ifB u15 (some 16) (some 0)))))
def m_piece_long (a0 : TBar) : Option Int :=
  (quoM 192 a0.Unit).bind fun z2 => some (w64 (a0.Beats * z2))
def m_piece_units (a0 : TFraction) : Option Int :=
  (quoM 192 a0.Den).bind fun z2 => some (w64 (a0.Num * z2))
def m_piece_carries (a0 : TTone) (a1 : TTone) : Option Bool :=
  ifB (a1.Note == a0.Note) (some (a1.Text.toList == ByteArray.empty.toList)) (some false)
def m_piece_checkTones_l2 (a1 : (List TTone)) (a2 : Bool) (i20 : Nat) (x21 : TTone) (u23 : Unit) : Option (Flow Unit Int) :=
  ifB x21.Tied (ifB ((i20 : Int) == (w64 ((a1.length : Int) - 1))) (ifB (!a2) (some (.ret 16)) (ifB (decide ((i20 : Int) < (w64 ((a1.length : Int) - 1)))) ((getI a1 (w64 ((i20 : Int) + 1))).bind fun e28 => (m_piece_carries x21 e28).bind fun y29 => ifB (!y29) (some (.ret 16)) (some (.nxt ()))) (some (.nxt ())))) (ifB (decide ((i20 : Int) < (w64 ((a1.length : Int) - 1)))) ((getI a1 (w64 ((i20 : Int) + 1))).bind fun e30 => (m_piece_carries x21 e30).bind fun y31 => ifB (!y31) (some (.ret 16)) (some (.nxt ()))) (some (.nxt ())))) (some (.nxt ()))
def m_piece_checkTones_l1 (a0 : (List TBar)) (i1 : Nat) (x2 : TTone) (u4 : (Int × Int)) : Option (Flow (Int × Int) Int) :=
  (m_piece_toneFault x2).bind fun y9 => ifB (y9 != 0) (some (.ret y9)) ((ifB (u4.2 == 0) (ifB (u4.1 == (a0.length : Int)) (some (.inr (.ret 16))) ((getI a0 u4.1).bind fun e13 => (m_piece_long e13).bind fun y14 => some (.inl (w64 (u4.1 + 1), y14)))) (some (.inl (u4.1, u4.2))) : Option ((Int × Int) ⊕ (Flow (Int × Int) Int))).bind fun k12 => Sum.fin k12 fun u10 => (m_piece_units x2.Long).bind fun y15 => ifB (decide (y15 > u10.2)) (some (.ret 16)) ((m_piece_units x2.Long).bind fun y16 => some (.nxt (u10.1, w64 (u10.2 - y16)))))
def m_piece_checkTones (a0 : (List TBar)) (a1 : (List TTone)) (a2 : Bool) : Option Int :=
  ifB (decide ((a1.length : Int) > 2000)) (some 2) ((rangeM (m_piece_checkTones_l1 a0) 0 a1 (0, 0)).bind fun f7 => Flow.fin f7 fun u4 => (ifB (decide (u4.2 > 0)) (some (.inl true)) (some (.inl (decide (u4.1 < (a0.length : Int))))) : Option (Bool ⊕ Int)).bind fun k19 => Sum.fin k19 fun u17 => ifB u17 (some 3) ((rangeM (m_piece_checkTones_l2 a1 a2) 0 a1 ()).bind fun f26 => Flow.fin f26 fun u23 => some 0))
def m_piece_CheckTones (a0 : (List TBar)) (a1 : (List TTone)) : Option Int :=
  (m_piece_CheckBars a0).bind fun y1 => ifB (y1 != 0) (some y1) ((m_piece_checkTones a0 a1 false).bind fun y2 => some y2)
def m_slices_Clone_api_Tone_api_Tone (a0 : (List TTone)) : Option (List TTone) :=
  (appM 48 ([] : List TTone) a0).bind fun q3 => some q3
def m_piece_inBars_l2 (u5 : ((List TTone) × (List (List TTone)))) (u13 : (Int × Int)) : Option (Flow (Int × Int) (Flow ((List TTone) × (List (List TTone))) (List (List TTone)))) :=
  ifB (decide (u13.2 > 0)) ((getI u5.1 u13.1).bind fun e17 => (m_piece_units e17.Long).bind fun y18 => some (.nxt (w64 (u13.1 + 1), w64 (u13.2 - y18)))) (some (.brk (u13.1, u13.2)))
def m_piece_inBars_l1  (i1 : Nat) (x2 : TBar) (u5 : ((List TTone) × (List (List TTone)))) : Option (Flow ((List TTone) × (List (List TTone))) (List (List TTone))) :=
  (m_piece_long x2).bind fun y12 => (loopM (m_piece_inBars_l2 u5) (0, y12)).bind fun f16 => Flow.fin f16 fun u13 => (sliceI u5.1 0 u13.1).bind fun q19 => (m_slices_Clone_api_Tone_api_Tone q19).bind fun y20 => (appM 24 u5.2 [y20]).bind fun q23 => (sliceI u5.1 u13.1 (u5.1.length : Int)).bind fun q26 => some (.nxt (q26, q23))
def m_piece_inBars (a0 : (List TBar)) (a1 : (List TTone)) : Option (List (List TTone)) :=
  (rangeM m_piece_inBars_l1 0 a0 (a1, [])).bind fun f8 => Flow.fin f8 fun u5 => some u5.2
def m_piece_InBars (a0 : (List TBar)) (a1 : (List TTone)) : Option ((List (List TTone)) × Int) :=
  (m_piece_CheckTones a0 a1).bind fun y1 => ifB (y1 != 0) (some ([], y1)) ((m_piece_inBars a0 a1).bind fun y3 => some (y3, 0))
def m_piece_played (a0 : (List TBar)) : Option (List Int) :=
  (m_piece_repeats a0).bind fun y1 => (m_piece_order a0 y1.1 2000).bind fun y3 => some y3
def m_piece_loosened_l1  (i1 : Nat) (x2 : TTone) (u4 : (List TTone)) : Option (Flow (List TTone) ((List TTone) × (List TTone))) :=
  ifB ((i1 : Int) == (w64 ((u4.length : Int) - 1))) ((getI u4 (i1 : Int)).bind fun e8 => some (.nxt (u4.set ((i1 : Int).toNat) (TTone.mk e8.Note e8.Long e8.Text false)))) ((getI u4 (i1 : Int)).bind fun e9 => (getI u4 (w64 ((i1 : Int) + 1))).bind fun e10 => (m_piece_carries e9 e10).bind fun y11 => ifB (!y11) ((getI u4 (i1 : Int)).bind fun e12 => some (.nxt (u4.set ((i1 : Int).toNat) (TTone.mk e12.Note e12.Long e12.Text false)))) (some (.nxt u4)))
def m_piece_loosened (a0 : (List TTone)) : Option ((List TTone) × (List TTone)) :=
  (rangeM m_piece_loosened_l1 0 a0 a0).bind fun f7 => Flow.fin f7 fun u4 => some (u4, u4)
def m_piece_playedTones_l1 (y1 : (List (List TTone))) (i6 : Nat) (x7 : Int) (u10 : (List TTone)) : Option (Flow (List TTone) (List TTone)) :=
  (getI y1 x7).bind fun e15 => (appM 48 u10 e15).bind fun q16 => some (.nxt q16)
def m_piece_playedTones (a0 : (List TBar)) (a1 : (List TTone)) : Option (List TTone) :=
  (m_piece_inBars a0 a1).bind fun y1 => (m_piece_played a0).bind fun y4 => (rangeM (m_piece_playedTones_l1 y1) 0 y4 []).bind fun f13 => Flow.fin f13 fun u10 => (m_piece_loosened u10).bind fun y19 => some y19.1
def m_piece_Played (a0 : (List TBar)) (a1 : (List TTone)) : Option ((List TTone) × Int) :=
  (m_piece_CheckTones a0 a1).bind fun y1 => ifB (y1 != 0) (some ([], y1)) ((m_piece_playedTones a0 a1).bind fun y3 => some (y3, 0))
def m_kit_Lowest_l1  (u2 : (Int × Int)) : Option (Flow (Int × Int) TFraction) :=
  ifB (u2.2 != 0) ((remM u2.1 u2.2).bind fun z6 => some (.nxt (u2.2, z6))) (some (.brk (u2.1, u2.2)))
def m_kit_Lowest (a0 : Int) (a1 : Int) : Option TFraction :=
  (loopM m_kit_Lowest_l1 (a0, a1)).bind fun f5 => Flow.fin f5 fun u2 => (quoM a0 u2.1).bind fun z7 => (quoM a1 u2.1).bind fun z8 => some (TFraction.mk z7 z8)
def m_piece_fraction (a0 : Int) : Option TFraction :=
  (m_kit_Lowest a0 192).bind fun y2 => some y2
def m_piece_Joined_l1  (i3 : Nat) (x4 : TTone) (u7 : (Bool × (List TTone))) : Option (Flow (Bool × (List TTone)) ((List TTone) × Int)) :=
  ifB u7.1 ((getI u7.2 (w64 ((u7.2.length : Int) - 1))).bind fun e13 => (m_piece_units e13.Long).bind fun y14 => (m_piece_units x4.Long).bind fun y15 => (m_piece_fraction (w64 (y14 + y15))).bind fun y16 => some (.nxt (x4.Tied, (u7.2.set ((w64 ((u7.2.length : Int) - 1)).toNat) (TTone.mk e13.Note y16 e13.Text e13.Tied))))) ((appM 48 u7.2 [(TTone.mk x4.Note x4.Long x4.Text false)]).bind fun q20 => some (.nxt (x4.Tied, q20)))
def m_piece_Joined (a0 : (List TBar)) (a1 : (List TTone)) : Option ((List TTone) × Int) :=
  (m_piece_CheckTones a0 a1).bind fun y1 => ifB (y1 != 0) (some ([], y1)) ((rangeM m_piece_Joined_l1 0 a1 (false, [])).bind fun f10 => Flow.fin f10 fun u7 => some (u7.2, 0))
def m_piece_RangeOf_l1  (i4 : Nat) (x5 : TTone) (u7 : (Bool × Int × Int)) : Option (Flow (Bool × Int × Int) (TRange × Bool × Int)) :=
  ifB (x5.Note != (-1)) (some (.nxt (true, min u7.2.1 x5.Note, max u7.2.2 x5.Note))) (some (.nxt (u7.1, u7.2.1, u7.2.2)))
def m_piece_RangeOf (a0 : (List TBar)) (a1 : (List TTone)) : Option (TRange × Bool × Int) :=
  (m_piece_CheckTones a0 a1).bind fun y2 => ifB (y2 != 0) (some ((TRange.mk 0 0), false, y2)) ((rangeM m_piece_RangeOf_l1 0 a1 (false, 127, 0)).bind fun f10 => Flow.fin f10 fun u7 => ifB (!u7.1) (some ((TRange.mk 0 0), false, 0)) (some ((TRange.mk u7.2.1 u7.2.2), true, 0)))
def m_gleeref2_in (a0 : Int) (a1 : Int) (a2 : Int) : Option Bool :=
  ifB (decide (a1 ≤ a0)) (some (decide (a0 ≤ a2))) (some false)
def m_gleeref2_OrderOf_l4 (a0 : (List TBar)) (u11 : Int) (u16 : (Int × (List Int))) (u22 : (Int × (List Int))) : Option (Flow (Int × (List Int)) (Flow (Int × (List Int)) (Flow (Int × (List Int)) (List Int)))) :=
  ifB (decide (u22.1 ≤ u11)) (((getI a0 u22.1).bind fun e30 => ifB (e30.Ending == 0) (some (.inl true)) ((getI a0 u22.1).bind fun e31 => some (.inl (e31.Ending == u16.1))) : Option (Bool ⊕ (Flow (Int × (List Int)) (Flow (Int × (List Int)) (Flow (Int × (List Int)) (List Int)))))).bind fun k29 => Sum.fin k29 fun u27 => ifB u27 ((appM 8 u22.2 [u22.1]).bind fun q33 => some (.nxt (w64 (u22.1 + 1), q33))) (some (.nxt (w64 (u22.1 + 1), u22.2)))) (some (.brk (u22.1, u22.2)))
def m_gleeref2_OrderOf_l3 (a0 : (List TBar)) (u11 : Int) (u2 : (Int × (List Int))) (u16 : (Int × (List Int))) : Option (Flow (Int × (List Int)) (Flow (Int × (List Int)) (List Int))) :=
  (getI a0 u11).bind fun e21 => ifB (decide (u16.1 ≤ e21.Close)) ((loopM (m_gleeref2_OrderOf_l4 a0 u11 u16) (u2.1, u16.2)).bind fun f25 => Flow.fin f25 fun u22 => some (.nxt (w64 (u16.1 + 1), u22.2))) (some (.brk (u16.1, u16.2)))
def m_gleeref2_OrderOf_l2 (a0 : (List TBar)) (u11 : Int) : Option (Flow Int (Flow (Int × (List Int)) (List Int))) :=
  (getI a0 u11).bind fun e15 => ifB (e15.Close == 0) (some (.nxt (w64 (u11 + 1)))) (some (.brk u11))
def m_gleeref2_OrderOf_l1 (a0 : (List TBar)) (u2 : (Int × (List Int))) : Option (Flow (Int × (List Int)) (List Int)) :=
  ifB (decide (u2.1 < (a0.length : Int))) ((getI a0 u2.1).bind fun e7 => ifB (!e7.Open) ((appM 8 u2.2 [u2.1]).bind fun q9 => some (.nxt (w64 (u2.1 + 1), q9))) ((loopM (m_gleeref2_OrderOf_l2 a0) u2.1).bind fun f14 => Flow.fin f14 fun u11 => (loopM (m_gleeref2_OrderOf_l3 a0 u11 u2) (1, u2.2)).bind fun f19 => Flow.fin f19 fun u16 => some (.nxt (w64 (u11 + 1), u16.2)))) (some (.brk (u2.1, u2.2)))
def m_gleeref2_OrderOf (a0 : (List TBar)) : Option (List Int) :=
  (loopM (m_gleeref2_OrderOf_l1 a0) (0, [])).bind fun f5 => Flow.fin f5 fun u2 => some u2.2
def m_gleeref2_BarsFault_l1  (i1 : Nat) (x2 : TBar) (u4 : (Bool × Int × Int × Bool)) : Option (Flow (Bool × Int × Int × Bool) Int) :=
  ((m_gleeref2_in x2.Beats 1 16).bind fun y12 => ifB (!y12) (some (.inl true)) ((m_slices_Contains_int_int [1, 2, 4, 8, 16] x2.Unit).bind fun y14 => ifB (!y14) (some (.inl true)) (ifB (x2.Close != 0) ((m_gleeref2_in x2.Close 2 9).bind fun y15 => ifB (!y15) (some (.inl true)) ((m_gleeref2_in x2.Ending 0 9).bind fun y16 => some (.inl (!y16)))) ((m_gleeref2_in x2.Ending 0 9).bind fun y17 => some (.inl (!y17))))) : Option (Bool ⊕ (Flow (Bool × Int × Int × Bool) Int))).bind fun k11 => Sum.fin k11 fun u9 => ifB u9 (some (.ret 1)) ((ifB x2.Open (ifB u4.1 (some (.inr (.ret 16))) (some (.inl (true, 0, 0)))) (some (.inl (u4.1, u4.2.1, u4.2.2.1))) : Option ((Bool × Int × Int) ⊕ (Flow (Bool × Int × Int × Bool) Int))).bind fun k20 => Sum.fin k20 fun u18 => (ifB (!u18.1) (ifB (x2.Close != 0) (some (.inl true)) (ifB (x2.Ending != 0) (some (.inl true)) (ifB u18.1 (some (.inl (decide (x2.Ending < u18.2.1)))) (some (.inl false))))) (ifB u18.1 (some (.inl (decide (x2.Ending < u18.2.1)))) (some (.inl false))) : Option (Bool ⊕ (Flow (Bool × Int × Int × Bool) Int))).bind fun k23 => Sum.fin k23 fun u21 => ifB u21 (some (.ret 16)) ((ifB u18.1 (some (.inl (x2.Ending, max u18.2.2 x2.Ending))) (some (.inl (u18.2.1, u18.2.2))) : Option ((Int × Int) ⊕ (Flow (Bool × Int × Int × Bool) Int))).bind fun k26 => Sum.fin k26 fun u24 => ifB (x2.Close != 0) (ifB u4.2.2.2 (some (.nxt (false, u24.1, u24.2, true))) (some (.nxt (false, u24.1, u24.2, decide (u24.2 > x2.Close))))) (some (.nxt (u18.1, u24.1, u24.2, u4.2.2.2)))))
def m_gleeref2_BarsFault (a0 : (List TBar)) : Option Int :=
  ifB ((a0.length : Int) == 0) (some 8) (ifB (decide ((a0.length : Int) > 300)) (some 2) ((rangeM m_gleeref2_BarsFault_l1 0 a0 (false, 0, 0, false)).bind fun f7 => Flow.fin f7 fun u4 => (ifB u4.1 (some (.inl true)) (some (.inl u4.2.2.2)) : Option (Bool ⊕ Int)).bind fun k29 => Sum.fin k29 fun u27 => ifB u27 (some 16) ((m_gleeref2_OrderOf a0).bind fun y30 => ifB (decide ((y30.length : Int) > 2000)) (some 2) (some 0))))
def m_gleeref2_textFault_l1 (a0 : ByteArray) (i5 : Nat) (x6 : Nat) (u8 : Unit) : Option (Flow Unit Bool) :=
  ((strI a0 (i5 : Int)).bind fun c15 => ifB (decide (c15 < 33)) (some (.inl true)) ((strI a0 (i5 : Int)).bind fun c16 => ifB (c16 == 127) (some (.inl true)) ((strI a0 (i5 : Int)).bind fun c17 => some (.inl (c17 == 124)))) : Option (Bool ⊕ (Flow Unit Bool))).bind fun k14 => Sum.fin k14 fun u12 => ifB u12 (some (.ret true)) (some (.nxt ()))
def m_gleeref2_textFault (a0 : ByteArray) : Option Bool :=
  ((m_utf8_ValidString a0).bind fun y4 => ifB (!y4) (some (.inl true)) (some (.inl (decide ((a0.size : Int) > 20)))) : Option (Bool ⊕ Bool)).bind fun k3 => Sum.fin k3 fun u1 => ifB u1 (some true) ((rangeI (a0.size : Int)).bind fun L18 => (rangeM (m_gleeref2_textFault_l1 a0) 0 L18 ()).bind fun f11 => Flow.fin f11 fun u8 => some false)
def m_gleeref2_toneFault (a0 : TTone) : Option Int :=
  (ifB (a0.Note != (-1)) ((m_gleeref2_in a0.Note 0 127).bind fun y5 => some (.inl (!y5))) (some (.inl false)) : Option (Bool ⊕ Int)).bind fun k4 => Sum.fin k4 fun u2 => ifB u2 (some 1) ((ifB (decide (a0.Long.Num < 1)) (some (.inl true)) (ifB (decide (a0.Long.Den < 1)) (some (.inl true)) ((m_gleeref2_divisor a0.Long.Num a0.Long.Den).bind fun y9 => some (.inl (y9 != 1)))) : Option (Bool ⊕ Int)).bind fun k8 => Sum.fin k8 fun u6 => ifB u6 (some 3) (((remM 192 a0.Long.Den).bind fun z13 => ifB (z13 != 0) (some (.inl true)) (some (.inl (decide (a0.Long.Num > (w64 (16 * a0.Long.Den)))))) : Option (Bool ⊕ Int)).bind fun k12 => Sum.fin k12 fun u10 => ifB u10 (some 1) ((m_gleeref2_textFault a0.Text).bind fun y14 => ifB y14 (some 3) ((ifB (a0.Note == (-1)) (ifB a0.Tied (some (.inl true)) (some (.inl (!(a0.Text.toList == ByteArray.empty.toList))))) (some (.inl false)) : Option (Bool ⊕ Int)).bind fun k17 => Sum.fin k17 fun u15 => ifB u15 (some 16) (some 0)))))
def m_gleeref2_barUnits (a0 : TBar) : Option Int :=
  (quoM (w64 (a0.Beats * 192)) a0.Unit).bind fun z2 => some z2
def m_gleeref2_units (a0 : TFraction) : Option Int :=
  (quoM 192 a0.Den).bind fun z2 => some (w64 (a0.Num * z2))
def m_gleeref2_tiesTo (a0 : TTone) (a1 : TTone) : Option Bool :=
  ifB (a0.Note == a1.Note) (some (a1.Text.toList == ByteArray.empty.toList)) (some false)
def m_gleeref2_fillFault_l2 (a1 : (List TTone)) (a2 : Bool) (i19 : Nat) (x20 : TTone) (u22 : Unit) : Option (Flow Unit Int) :=
  ifB x20.Tied (ifB ((i19 : Int) == (w64 ((a1.length : Int) - 1))) (ifB (!a2) (some (.ret 16)) (ifB (!((i19 : Int) == (w64 ((a1.length : Int) - 1)))) ((getI a1 (min (w64 ((i19 : Int) + 1)) (w64 ((a1.length : Int) - 1)))).bind fun e27 => (m_gleeref2_tiesTo x20 e27).bind fun y28 => ifB (!y28) (some (.ret 16)) (some (.nxt ()))) (some (.nxt ())))) (ifB (!((i19 : Int) == (w64 ((a1.length : Int) - 1)))) ((getI a1 (min (w64 ((i19 : Int) + 1)) (w64 ((a1.length : Int) - 1)))).bind fun e29 => (m_gleeref2_tiesTo x20 e29).bind fun y30 => ifB (!y30) (some (.ret 16)) (some (.nxt ()))) (some (.nxt ())))) (some (.nxt ()))
def m_gleeref2_fillFault_l1 (a0 : (List TBar)) (i1 : Nat) (x2 : TTone) (u4 : (Int × Int)) : Option (Flow (Int × Int) Int) :=
  (m_gleeref2_toneFault x2).bind fun y9 => ifB (y9 != 0) (some (.ret y9)) ((ifB (u4.2 == 0) (ifB ((w64 (u4.1 + 1)) == (a0.length : Int)) (some (.inr (.ret 16))) ((getI a0 (w64 (u4.1 + 1))).bind fun e13 => (m_gleeref2_barUnits e13).bind fun y14 => some (.inl (w64 (u4.1 + 1), y14)))) (some (.inl (u4.1, u4.2))) : Option ((Int × Int) ⊕ (Flow (Int × Int) Int))).bind fun k12 => Sum.fin k12 fun u10 => (m_gleeref2_units x2.Long).bind fun y15 => ifB (decide ((w64 (u10.2 - y15)) < 0)) (some (.ret 16)) (some (.nxt (u10.1, w64 (u10.2 - y15)))))
def m_gleeref2_fillFault (a0 : (List TBar)) (a1 : (List TTone)) (a2 : Bool) : Option Int :=
  ifB (decide ((a1.length : Int) > 2000)) (some 2) ((rangeM (m_gleeref2_fillFault_l1 a0) 0 a1 ((-1), 0)).bind fun f7 => Flow.fin f7 fun u4 => (ifB (u4.2 != 0) (some (.inl true)) (some (.inl (u4.1 != (w64 ((a0.length : Int) - 1))))) : Option (Bool ⊕ Int)).bind fun k18 => Sum.fin k18 fun u16 => ifB u16 (some 3) ((rangeM (m_gleeref2_fillFault_l2 a1 a2) 0 a1 ()).bind fun f25 => Flow.fin f25 fun u22 => some 0))
def m_gleeref2_TonesFault (a0 : (List TBar)) (a1 : (List TTone)) : Option Int :=
  (m_gleeref2_BarsFault a0).bind fun y1 => ifB (y1 != 0) (some y1) ((m_gleeref2_fillFault a0 a1 false).bind fun y2 => some y2)
def m_piece_Order (a0 : (List TBar)) : Option ((List Int) × Int) :=
  (m_piece_CheckBars a0).bind fun y1 => ifB (y1 != 0) (some ([], y1)) ((m_piece_played a0).bind fun y3 => some (y3, 0))
def m_slices_Equal_int_int_l1 (a1 : (List Int)) (i1 : Nat) (x2 : Int) (u4 : Unit) : Option (Flow Unit Bool) :=
  (getI a1 (i1 : Int)).bind fun e8 => ifB (x2 != e8) (some (.ret false)) (some (.nxt ()))
def m_slices_Equal_int_int (a0 : (List Int)) (a1 : (List Int)) : Option Bool :=
  ifB ((a0.length : Int) != (a1.length : Int)) (some false) ((rangeM (m_slices_Equal_int_int_l1 a1) 0 a0 ()).bind fun f7 => Flow.fin f7 fun u4 => some true)
def m_gleelaw2_written  : Option Bool :=
  (m_piece_Order [(TBar.mk 1 4 2 0 true)]).bind fun y2 => ifB (y2.2 == 0) ((m_slices_Equal_int_int y2.1 [0, 0]).bind fun y5 => some y5) (some false)
def m_slices_Min_int_int_l1 (a0 : (List Int)) (u2 : (Int × Int)) : Option (Flow (Int × Int) Int) :=
  ifB (decide (u2.2 < (a0.length : Int))) ((getI a0 u2.2).bind fun e6 => some (.nxt (min u2.1 e6, w64 (u2.2 + 1)))) (some (.brk (u2.1, u2.2)))
def m_slices_Min_int_int (a0 : (List Int)) : Option Int :=
  ifB (decide ((a0.length : Int) < 1)) (none) ((getI a0 0).bind fun e1 => (loopM (m_slices_Min_int_int_l1 a0) (e1, 1)).bind fun f5 => Flow.fin f5 fun u2 => some u2.1)
def m_slices_Max_int_int_l1 (a0 : (List Int)) (u2 : (Int × Int)) : Option (Flow (Int × Int) Int) :=
  ifB (decide (u2.2 < (a0.length : Int))) ((getI a0 u2.2).bind fun e6 => some (.nxt (max u2.1 e6, w64 (u2.2 + 1)))) (some (.brk (u2.1, u2.2)))
def m_slices_Max_int_int (a0 : (List Int)) : Option Int :=
  ifB (decide ((a0.length : Int) < 1)) (none) ((getI a0 0).bind fun e1 => (loopM (m_slices_Max_int_int_l1 a0) (e1, 1)).bind fun f5 => Flow.fin f5 fun u2 => some u2.1)
def m_gleeref2_RangeFor_l1  (i2 : Nat) (x3 : TTone) (u6 : (List Int)) : Option (Flow (List Int) (TRange × Bool)) :=
  ifB (x3.Note != (-1)) ((appM 8 u6 [x3.Note]).bind fun q13 => some (.nxt q13)) (some (.nxt u6))
def m_gleeref2_RangeFor (a0 : (List TTone)) : Option (TRange × Bool) :=
  (rangeM m_gleeref2_RangeFor_l1 0 a0 []).bind fun f9 => Flow.fin f9 fun u6 => ifB ((u6.length : Int) == 0) (some ((TRange.mk 0 0), false)) ((m_slices_Min_int_int u6).bind fun y16 => (m_slices_Max_int_int u6).bind fun y17 => some ((TRange.mk y16 y17), true))
def m_gleeref2_InBarsOf_l2 (u5 : ((List TTone) × (List (List TTone)))) (u13 : (Int × Int)) : Option (Flow (Int × Int) (Flow ((List TTone) × (List (List TTone))) (List (List TTone)))) :=
  ifB (decide (u13.2 > 0)) ((getI u5.1 u13.1).bind fun e17 => (m_gleeref2_units e17.Long).bind fun y18 => some (.nxt (w64 (u13.1 + 1), w64 (u13.2 - y18)))) (some (.brk (u13.1, u13.2)))
def m_gleeref2_InBarsOf_l1  (i1 : Nat) (x2 : TBar) (u5 : ((List TTone) × (List (List TTone)))) : Option (Flow ((List TTone) × (List (List TTone))) (List (List TTone))) :=
  (m_gleeref2_barUnits x2).bind fun y12 => (loopM (m_gleeref2_InBarsOf_l2 u5) (0, y12)).bind fun f16 => Flow.fin f16 fun u13 => (sliceI u5.1 0 u13.1).bind fun q19 => (m_slices_Clone_api_Tone_api_Tone q19).bind fun y20 => (appM 24 u5.2 [y20]).bind fun q23 => (sliceI u5.1 u13.1 (u5.1.length : Int)).bind fun q26 => some (.nxt (q26, q23))
def m_gleeref2_InBarsOf (a0 : (List TBar)) (a1 : (List TTone)) : Option (List (List TTone)) :=
  (rangeM m_gleeref2_InBarsOf_l1 0 a0 (a1, [])).bind fun f8 => Flow.fin f8 fun u5 => some u5.2
def m_slices_Equal_api_Tone_api_Tone_l1 (a1 : (List TTone)) (i1 : Nat) (x2 : TTone) (u4 : Unit) : Option (Flow Unit Bool) :=
  (getI a1 (i1 : Int)).bind fun e8 => ifB (!(decide (x2 = e8))) (some (.ret false)) (some (.nxt ()))
def m_slices_Equal_api_Tone_api_Tone (a0 : (List TTone)) (a1 : (List TTone)) : Option Bool :=
  ifB ((a0.length : Int) != (a1.length : Int)) (some false) ((rangeM (m_slices_Equal_api_Tone_api_Tone_l1 a1) 0 a0 ()).bind fun f7 => Flow.fin f7 fun u4 => some true)
def m_slices_EqualFunc_api_Tone_api_Tone_api_Tone_api_Tone__slices_Equal_api_Tone_api_Tone_l1 (a1 : (List (List TTone))) (i1 : Nat) (x2 : (List TTone)) (u4 : Unit) : Option (Flow Unit Bool) :=
  (getI a1 (i1 : Int)).bind fun e8 => (m_slices_Equal_api_Tone_api_Tone x2 e8).bind fun y9 => ifB (!y9) (some (.ret false)) (some (.nxt ()))
def m_slices_EqualFunc_api_Tone_api_Tone_api_Tone_api_Tone__slices_Equal_api_Tone_api_Tone (a0 : (List (List TTone))) (a1 : (List (List TTone))) : Option Bool :=
  ifB ((a0.length : Int) != (a1.length : Int)) (some false) ((rangeM (m_slices_EqualFunc_api_Tone_api_Tone_api_Tone_api_Tone__slices_Equal_api_Tone_api_Tone_l1 a1) 0 a0 ()).bind fun f7 => Flow.fin f7 fun u4 => some true)
def m_gleeref2_untied_l1  (i1 : Nat) (x2 : TTone) (u4 : (List TTone)) : Option (Flow (List TTone) ((List TTone) × (List TTone))) :=
  ifB ((i1 : Int) == (w64 ((u4.length : Int) - 1))) ((getI u4 (i1 : Int)).bind fun e8 => some (.nxt (u4.set ((i1 : Int).toNat) (TTone.mk e8.Note e8.Long e8.Text false)))) ((getI u4 (i1 : Int)).bind fun e9 => (getI u4 (w64 ((i1 : Int) + 1))).bind fun e10 => (m_gleeref2_tiesTo e9 e10).bind fun y11 => ifB (!y11) ((getI u4 (i1 : Int)).bind fun e12 => some (.nxt (u4.set ((i1 : Int).toNat) (TTone.mk e12.Note e12.Long e12.Text false)))) (some (.nxt u4)))
def m_gleeref2_untied (a0 : (List TTone)) : Option ((List TTone) × (List TTone)) :=
  (rangeM m_gleeref2_untied_l1 0 a0 a0).bind fun f7 => Flow.fin f7 fun u4 => some (u4, u4)
def m_gleeref2_PlayedOf_l1 (y1 : (List (List TTone))) (i6 : Nat) (x7 : Int) (u10 : (List TTone)) : Option (Flow (List TTone) (List TTone)) :=
  (getI y1 x7).bind fun e15 => (appM 48 u10 e15).bind fun q16 => some (.nxt q16)
def m_gleeref2_PlayedOf (a0 : (List TBar)) (a1 : (List TTone)) : Option (List TTone) :=
  (m_gleeref2_InBarsOf a0 a1).bind fun y1 => (m_gleeref2_OrderOf a0).bind fun y4 => (rangeM (m_gleeref2_PlayedOf_l1 y1) 0 y4 []).bind fun f13 => Flow.fin f13 fun u10 => (m_gleeref2_untied u10).bind fun y19 => some y19.1
def m_slices_Reverse_api_Tone_api_Tone_l1  (u1 : (Int × Int × (List TTone))) : Option (Flow (Int × Int × (List TTone)) (List TTone)) :=
  ifB (decide (u1.1 < u1.2.1)) ((getI u1.2.2 u1.2.1).bind fun e5 => (getI u1.2.2 u1.1).bind fun e6 => (getI u1.2.2 u1.1).bind fun e7 => (getI (u1.2.2.set u1.1.toNat e5) u1.2.1).bind fun e8 => some (.nxt (w64 (u1.1 + 1), w64 (u1.2.1 - 1), ((u1.2.2.set u1.1.toNat e5).set u1.2.1.toNat e6)))) (some (.brk (u1.1, u1.2.1, u1.2.2)))
def m_slices_Reverse_api_Tone_api_Tone (a0 : (List TTone)) : Option (List TTone) :=
  (loopM m_slices_Reverse_api_Tone_api_Tone_l1 (0, w64 ((a0.length : Int) - 1), a0)).bind fun f4 => Flow.fin f4 fun u1 => some u1.2.2
def m_gleeref2_JoinedOf_l1  (i3 : Nat) (x4 : TTone) (u10 : (List TTone)) : Option (Flow (List TTone) (List TTone)) :=
  (ifB x4.Tied ((m_gleeref2_units x4.Long).bind fun y20 => (getI u10 (w64 ((u10.length : Int) - 1))).bind fun e21 => (m_gleeref2_units e21.Long).bind fun y22 => (m_gleeref2_Lowest (w64 (y20 + y22)) 192).bind fun y23 => (sliceI u10 0 (w64 ((u10.length : Int) - 1))).bind fun q24 => some (.inl (y23.Num, y23.Den, q24))) (some (.inl (x4.Long.Num, x4.Long.Den, u10))) : Option ((Int × Int × (List TTone)) ⊕ (Flow (List TTone) (List TTone)))).bind fun k19 => Sum.fin k19 fun u16 => (appM 48 u16.2.2 [(TTone.mk x4.Note (TFraction.mk u16.1 u16.2.1) x4.Text false)]).bind fun q27 => some (.nxt q27)
def m_gleeref2_JoinedOf (a0 : (List TTone)) : Option (List TTone) :=
  (rangeB m_gleeref2_JoinedOf_l1 a0 []).bind fun f13 => Flow.fin f13 fun u10 => (m_slices_Reverse_api_Tone_api_Tone u10).bind fun y31 => some y31
def m_gleelaw2_TonesFill (a0 : (List Int)) : Option Bool :=
  (m_gleemake_Stream_Bars a0 0).bind fun y2 => (m_gleemake_Stream_Tones a0 y2.2 y2.1).bind fun y4 => (m_piece_InBars y2.1 y4.1).bind fun y6 => (m_piece_Played y2.1 y4.1).bind fun y9 => (m_piece_Joined y2.1 y4.1).bind fun y11 => (m_piece_RangeOf y2.1 y4.1).bind fun y13 => (m_gleeref2_TonesFault y2.1 y4.1).bind fun y15 => ((m_piece_CheckTones y2.1 y4.1).bind fun y19 => ifB (y19 != y15) (some (.inl true)) (ifB (y6.2 != y15) (some (.inl true)) (ifB (y9.2 != y15) (some (.inl true)) (ifB (y11.2 != y15) (some (.inl true)) (some (.inl (y13.2.2 != y15)))))) : Option (Bool ⊕ Bool)).bind fun k18 => Sum.fin k18 fun u16 => ifB u16 (some false) (ifB (y15 != 0) ((ifB ((w64 ((w64 ((y6.1.length : Int) + (y9.1.length : Int))) + (y11.1.length : Int))) == 0) (ifB (decide (y13.1 = (TRange.mk 0 0))) (ifB (!y13.2.1) (m_gleelaw2_written.bind fun y23 => some (.inl y23)) (some (.inl false))) (some (.inl false))) (some (.inl false)) : Option (Bool ⊕ Bool)).bind fun k22 => Sum.fin k22 fun u20 => some u20) ((m_gleeref2_RangeFor y4.1).bind fun y24 => (m_gleeref2_InBarsOf y2.1 y4.1).bind fun y26 => (m_slices_EqualFunc_api_Tone_api_Tone_api_Tone_api_Tone__slices_Equal_api_Tone_api_Tone y6.1 y26).bind fun y29 => ifB y29 ((m_gleeref2_PlayedOf y2.1 y4.1).bind fun y30 => (m_slices_Equal_api_Tone_api_Tone y9.1 y30).bind fun y32 => ifB y32 ((m_gleeref2_JoinedOf y4.1).bind fun y33 => (m_slices_Equal_api_Tone_api_Tone y11.1 y33).bind fun y35 => ifB y35 (ifB (decide (y13.1 = y24.1)) (ifB (y13.2.1 == y24.2) (m_gleelaw2_written.bind fun y36 => some y36) (some false)) (some false)) (some false)) (some false)) (some false)))
def m_gleemake_Stream_ATime (a0_0 : (List Int)) (a0_1 : Int) : Option (TFraction × Int) :=
  (m_gleemake_Stream_Flip a0_0 a0_1 12).bind fun y2 => ifB y2.1 ((m_gleemake_Stream_Next a0_0 y2.2 7).bind fun y4 => (getI [(TFraction.mk 2 4), (TFraction.mk (-1) 4), (TFraction.mk 1 5), (TFraction.mk 100 1), (TFraction.mk 1 0), (TFraction.mk 4611686018427387904 1), (TFraction.mk (-9223372036854775808) 3)] y4.1).bind fun e5 => some (e5, y4.2)) ((m_gleemake_Stream_Pick a0_0 y2.2 [0, 24, 48, 96, 100, 192, 250, 384, 700]).bind fun y7 => (m_gleeref2_Lowest y7.1 192).bind fun y8 => some (y8, y7.2))
def m_piece_Shift_l1 (a2 : Int) (i7 : Nat) (x8 : TTone) (u10 : (List TTone)) : Option (Flow (List TTone) ((List TTone) × Int)) :=
  (getI u10 (i7 : Int)).bind fun e15 => ifB (e15.Note == (-1)) (some (.nxt u10)) ((getI u10 (i7 : Int)).bind fun e16 => (getI u10 (i7 : Int)).bind fun e17 => (getI (u10.set ((i7 : Int).toNat) (TTone.mk (w64 (e16.Note + a2)) e17.Long e17.Text e17.Tied)) (i7 : Int)).bind fun e18 => (m_kit_Outside e18.Note 0 127).bind fun y19 => ifB y19 (some (.ret ([], 16))) (some (.nxt (u10.set ((i7 : Int).toNat) (TTone.mk (w64 (e16.Note + a2)) e17.Long e17.Text e17.Tied)))))
def m_piece_Shift (a0 : (List TBar)) (a1 : (List TTone)) (a2 : Int) : Option ((List TTone) × Int) :=
  (m_piece_CheckTones a0 a1).bind fun y1 => ifB (y1 != 0) (some ([], y1)) ((m_kit_Outside a2 (-127) 127).bind fun y3 => ifB y3 (some ([], 1)) ((m_slices_Clone_api_Tone_api_Tone a1).bind fun y5 => (rangeM (m_piece_Shift_l1 a2) 0 y5 y5).bind fun f13 => Flow.fin f13 fun u10 => some (u10, 0)))
def m_piece_Sounds_l2 (a2 : TFraction) (i18 : Nat) (x19 : TTone) (u21 : Int) : Option (Flow Int (Int × Bool × Int)) :=
  (m_piece_units x19.Long).bind fun y26 => (m_piece_units a2).bind fun y27 => ifB (decide (y27 < (w64 (u21 + y26)))) (some (.ret (max x19.Note 0, x19.Note != (-1), 0))) (some (.nxt (w64 (u21 + y26))))
def m_piece_Sounds_l1  (i4 : Nat) (x5 : TBar) (u7 : Int) : Option (Flow Int (Int × Bool × Int)) :=
  (m_piece_long x5).bind fun y12 => some (.nxt (w64 (u7 + y12)))
def m_piece_Sounds (a0 : (List TBar)) (a1 : (List TTone)) (a2 : TFraction) : Option (Int × Bool × Int) :=
  (m_piece_CheckTones a0 a1).bind fun y2 => ifB (y2 != 0) (some (0, false, y2)) ((m_piece_isLowest a2).bind fun y3 => ifB (!y3) (some (0, false, 3)) ((rangeM m_piece_Sounds_l1 0 a0 0).bind fun f10 => Flow.fin f10 fun u7 => (ifB (decide (a2.Num < 0)) (some (.inl true)) ((remM 192 a2.Den).bind fun z16 => ifB (z16 != 0) (some (.inl true)) (ifB (decide (a2.Num > u7)) (some (.inl true)) ((m_piece_units a2).bind fun y17 => some (.inl (decide (y17 ≥ u7)))))) : Option (Bool ⊕ (Int × Bool × Int))).bind fun k15 => Sum.fin k15 fun u13 => ifB u13 (some (0, false, 1)) ((rangeM (m_piece_Sounds_l2 a2) 0 a1 0).bind fun f24 => Flow.fin f24 fun u21 => some (0, false, 0))))
def m_stringslite_HasSuffix (a0 : ByteArray) (a1 : ByteArray) : Option Bool :=
  ifB (decide ((a0.size : Int) ≥ (a1.size : Int))) ((strS a0 (w64 ((a0.size : Int) - (a1.size : Int))) (a0.size : Int)).bind fun c1 => some (c1.toList == a1.toList)) (some false)
def m_stringslite_CutSuffix (a0 : ByteArray) (a1 : ByteArray) : Option (ByteArray × Bool) :=
  (m_stringslite_HasSuffix a0 a1).bind fun y1 => ifB (!y1) (some (a0, false)) ((strS a0 0 (w64 ((a0.size : Int) - (a1.size : Int)))).bind fun c2 => some (c2, true))
def m_strings_CutSuffix (a0 : ByteArray) (a1 : ByteArray) : Option (ByteArray × Bool) :=
  (m_stringslite_CutSuffix a0 a1).bind fun y1 => some (y1.1, y1.2)
def m_piece_Lyrics_l1  (i5 : Nat) (x6 : TTone) (u8 : (ByteArray × ByteArray)) : Option (Flow (ByteArray × ByteArray) (ByteArray × Int)) :=
  ifB (x6.Text.toList == ByteArray.empty.toList) (some (.nxt (u8.1, u8.2))) ((m_strings_CutSuffix x6.Text (ByteArray.mk [45].toArray)).bind fun y13 => (catM u8.1 y13.1).bind fun c14 => (m_bWriteString u8.2 c14).bind fun y15 => ifB y13.2 (some (.nxt (ByteArray.empty, y15))) (some (.nxt ((ByteArray.mk [32].toArray), y15))))
def m_piece_Lyrics (a0 : (List TBar)) (a1 : (List TTone)) : Option (ByteArray × Int) :=
  (m_piece_CheckTones a0 a1).bind fun y1 => ifB (y1 != 0) (some (ByteArray.empty, y1)) ((m_piece_playedTones a0 a1).bind fun y3 => (rangeM m_piece_Lyrics_l1 0 y3 (ByteArray.empty, ByteArray.empty)).bind fun f11 => Flow.fin f11 fun u8 => ifB (decide ((u8.2.size : Int) > 200000)) (some (ByteArray.empty, 12)) (some (u8.2, 0)))
def m_piece_Silent_1 (a0 : TTone) : Option Bool :=
  some (a0.Note != (-1))
def m_slices_IndexFunc_api_Tone_api_Tone__piece_Silent_1_l1  (i1 : Nat) (x2 : TTone) (u4 : Unit) : Option (Flow Unit Int) :=
  (m_piece_Silent_1 x2).bind fun y8 => ifB y8 (some (.ret (i1 : Int))) (some (.nxt ()))
def m_slices_IndexFunc_api_Tone_api_Tone__piece_Silent_1 (a0 : (List TTone)) : Option Int :=
  (rangeM m_slices_IndexFunc_api_Tone_api_Tone__piece_Silent_1_l1 0 a0 ()).bind fun f7 => Flow.fin f7 fun u4 => some (-1)
def m_slices_ContainsFunc_api_Tone_api_Tone__piece_Silent_1 (a0 : (List TTone)) : Option Bool :=
  (m_slices_IndexFunc_api_Tone_api_Tone__piece_Silent_1 a0).bind fun y1 => some (decide (y1 ≥ 0))
def m_piece_Silent_2 (a0 : TRange) (a1_0 : Int) : Option Bool :=
  some (decide ((w64 ((w64 (a0.High - a0.Low)) + 1)) < a1_0))
def m_slices_IndexFunc_api_Range_api_Range__piece_Silent_2_l1 (a1_c0_0 : Int) (i1 : Nat) (x2 : TRange) (u4 : Unit) : Option (Flow Unit Int) :=
  (m_piece_Silent_2 x2 a1_c0_0).bind fun y8 => ifB y8 (some (.ret (i1 : Int))) (some (.nxt ()))
def m_slices_IndexFunc_api_Range_api_Range__piece_Silent_2 (a0 : (List TRange)) (a1_c0_0 : Int) : Option Int :=
  (rangeM (m_slices_IndexFunc_api_Range_api_Range__piece_Silent_2_l1 a1_c0_0) 0 a0 ()).bind fun f7 => Flow.fin f7 fun u4 => some (-1)
def m_slices_DeleteFunc_api_Range_api_Range__piece_Silent_2_l1 (a1_c0_0 : Int) (u2 : (Int × Int × (List TRange))) : Option (Flow (Int × Int × (List TRange)) (List TRange)) :=
  ifB (decide (u2.2.1 < (u2.2.2.length : Int))) ((getI u2.2.2 u2.2.1).bind fun e6 => (m_piece_Silent_2 e6 a1_c0_0).bind fun y8 => ifB (!y8) ((getI u2.2.2 u2.1).bind fun e9 => some (.nxt (w64 (u2.1 + 1), w64 (u2.2.1 + 1), (u2.2.2.set u2.1.toNat e6)))) (some (.nxt (u2.1, w64 (u2.2.1 + 1), u2.2.2)))) (some (.brk (u2.1, u2.2.1, u2.2.2)))
def m_slices_DeleteFunc_api_Range_api_Range__piece_Silent_2 (a0 : (List TRange)) (a1_c0_0 : Int) : Option (List TRange) :=
  (m_slices_IndexFunc_api_Range_api_Range__piece_Silent_2 a0 a1_c0_0).bind fun y1 => ifB (y1 == (-1)) (some a0) ((loopM (m_slices_DeleteFunc_api_Range_api_Range__piece_Silent_2_l1 a1_c0_0) (y1, w64 (y1 + 1), a0)).bind fun f5 => Flow.fin f5 fun u2 => (sliceI u2.2.2 u2.1 (u2.2.2.length : Int)).bind fun q10 => (sliceI (clearM (TRange.mk 0 0) u2.2.2 u2.1) 0 u2.1).bind fun q11 => some q11)
def m_piece_Silent_l1  (i9 : Nat) (x10 : (List TTone)) (u13 : (List TRange)) : Option (Flow (List TRange) ((List TRange) × Int)) :=
  (m_slices_ContainsFunc_api_Tone_api_Tone__piece_Silent_1 x10).bind fun y18 => ifB y18 (some (.nxt u13)) ((ifB (decide ((w64 ((u13.length : Int) - 1)) ≥ 0)) ((getI u13 (w64 ((u13.length : Int) - 1))).bind fun e22 => some (.inl (e22.High == (w64 ((i9 : Int) - 1))))) (some (.inl false)) : Option (Bool ⊕ (Flow (List TRange) ((List TRange) × Int)))).bind fun k21 => Sum.fin k21 fun u19 => ifB u19 ((getI u13 (w64 ((u13.length : Int) - 1))).bind fun e23 => some (.nxt (u13.set ((w64 ((u13.length : Int) - 1)).toNat) (TRange.mk e23.Low (i9 : Int))))) ((appM 16 u13 [(TRange.mk (i9 : Int) (i9 : Int))]).bind fun q25 => some (.nxt q25)))
def m_piece_Silent (a0 : (List TBar)) (a1 : (List TTone)) (a2 : Int) : Option ((List TRange) × Int) :=
  (m_piece_CheckTones a0 a1).bind fun y2 => ifB (y2 != 0) (some ([], y2)) ((m_kit_Outside a2 1 300).bind fun y4 => ifB y4 (some ([], 1)) ((m_piece_inBars a0 a1).bind fun y6 => (rangeM m_piece_Silent_l1 0 y6 []).bind fun f16 => Flow.fin f16 fun u13 => (m_slices_DeleteFunc_api_Range_api_Range__piece_Silent_2 u13 a2).bind fun y28 => some (y28, 0)))
def m_gleelaw2_when (a0 : Bool) (a1 : Int) : Option Int :=
  ifB a0 (some a1) (some 0)
def m_gleelaw2_errs_l1  (i1 : Nat) (x2 : Int) (u4 : Unit) : Option (Flow Unit Int) :=
  ifB (x2 != 0) (some (.ret x2)) (some (.nxt ()))
def m_gleelaw2_errs (a0 : (List Int)) : Option Int :=
  (rangeM m_gleelaw2_errs_l1 0 a0 ()).bind fun f7 => Flow.fin f7 fun u4 => some 0
def m_gleeref2_ShiftOf_l1 (a1 : Int) (i5 : Nat) (x6 : TTone) (u8 : (List TTone)) : Option (Flow (List TTone) ((List TTone) × Int)) :=
  (getI u8 (i5 : Int)).bind fun e13 => ifB (e13.Note == (-1)) (some (.nxt u8)) ((getI u8 (i5 : Int)).bind fun e14 => (getI u8 (i5 : Int)).bind fun e15 => (getI (u8.set ((i5 : Int).toNat) (TTone.mk (w64 (e14.Note + a1)) e15.Long e15.Text e15.Tied)) (i5 : Int)).bind fun e16 => (m_gleeref2_in e16.Note 0 127).bind fun y17 => ifB (!y17) (some (.ret ([], 16))) (some (.nxt (u8.set ((i5 : Int).toNat) (TTone.mk (w64 (e14.Note + a1)) e15.Long e15.Text e15.Tied)))))
def m_gleeref2_ShiftOf (a0 : (List TTone)) (a1 : Int) : Option ((List TTone) × Int) :=
  (m_gleeref2_in a1 (-127) 127).bind fun y1 => ifB (!y1) (some ([], 1)) ((m_slices_Clone_api_Tone_api_Tone a0).bind fun y3 => (rangeM (m_gleeref2_ShiftOf_l1 a1) 0 y3 y3).bind fun f11 => Flow.fin f11 fun u8 => some (u8, 0))
def m_gleeref2_LyricsOf_l1  (i3 : Nat) (x4 : TTone) (u6 : (ByteArray × ByteArray)) : Option (Flow (ByteArray × ByteArray) (ByteArray × Int)) :=
  ifB (x4.Text.toList == ByteArray.empty.toList) (some (.nxt (u6.1, u6.2))) ((m_strings_CutSuffix x4.Text (ByteArray.mk [45].toArray)).bind fun y11 => (catM u6.2 y11.1).bind fun c12 => (catM u6.1 c12).bind fun c13 => ifB y11.2 (some (.nxt (c13, ByteArray.empty))) (some (.nxt (c13, (ByteArray.mk [32].toArray)))))
def m_gleeref2_LyricsOf (a0 : (List TBar)) (a1 : (List TTone)) : Option (ByteArray × Int) :=
  (m_gleeref2_PlayedOf a0 a1).bind fun y1 => (rangeM m_gleeref2_LyricsOf_l1 0 y1 (ByteArray.empty, ByteArray.empty)).bind fun f9 => Flow.fin f9 fun u6 => ifB (decide ((u6.1.size : Int) > 200000)) (some (ByteArray.empty, 12)) (some (u6.1, 0))
def m_gleeref2_SoundsFault_l1  (i2 : Nat) (x3 : TBar) (u5 : Int) : Option (Flow Int Int) :=
  (m_gleeref2_barUnits x3).bind fun y10 => some (.nxt (w64 (u5 + y10)))
def m_gleeref2_SoundsFault (a0 : (List TBar)) (a1 : TFraction) : Option Int :=
  (rangeM m_gleeref2_SoundsFault_l1 0 a0 0).bind fun f8 => Flow.fin f8 fun u5 => (ifB (decide (a1.Den < 1)) (some (.inl true)) ((m_gleeref2_divisor a1.Num a1.Den).bind fun y14 => some (.inl (y14 != 1))) : Option (Bool ⊕ Int)).bind fun k13 => Sum.fin k13 fun u11 => ifB u11 (some 3) ((ifB (decide (a1.Num < 0)) (some (.inl true)) ((remM 192 a1.Den).bind fun z18 => ifB (z18 != 0) (some (.inl true)) (ifB (decide (a1.Num ≥ u5)) (some (.inl true)) ((m_gleeref2_units a1).bind fun y19 => some (.inl (decide (y19 ≥ u5)))))) : Option (Bool ⊕ Int)).bind fun k17 => Sum.fin k17 fun u15 => ifB u15 (some 1) (some 0))
def m_gleeref2_SoundsOf_l1  (i3 : Nat) (x4 : TTone) (u6 : Int) : Option (Flow Int (Int × Bool)) :=
  (m_gleeref2_units x4.Long).bind fun y11 => ifB (decide ((w64 (u6 - y11)) < 0)) (ifB (x4.Note == (-1)) (some (.ret (0, false))) (some (.ret (x4.Note, true)))) (some (.nxt (w64 (u6 - y11))))
def m_gleeref2_SoundsOf (a0 : (List TTone)) (a1 : TFraction) : Option (Int × Bool) :=
  (m_gleeref2_units a1).bind fun y2 => (rangeM m_gleeref2_SoundsOf_l1 0 a0 y2).bind fun f9 => Flow.fin f9 fun u6 => some (0, false)
def m_gleeref2_SilentOf_1 (a0 : TTone) : Option Bool :=
  some (a0.Note != (-1))
def m_slices_IndexFunc_api_Tone_api_Tone__gleeref2_SilentOf_1_l1  (i1 : Nat) (x2 : TTone) (u4 : Unit) : Option (Flow Unit Int) :=
  (m_gleeref2_SilentOf_1 x2).bind fun y8 => ifB y8 (some (.ret (i1 : Int))) (some (.nxt ()))
def m_slices_IndexFunc_api_Tone_api_Tone__gleeref2_SilentOf_1 (a0 : (List TTone)) : Option Int :=
  (rangeM m_slices_IndexFunc_api_Tone_api_Tone__gleeref2_SilentOf_1_l1 0 a0 ()).bind fun f7 => Flow.fin f7 fun u4 => some (-1)
def m_slices_ContainsFunc_api_Tone_api_Tone__gleeref2_SilentOf_1 (a0 : (List TTone)) : Option Bool :=
  (m_slices_IndexFunc_api_Tone_api_Tone__gleeref2_SilentOf_1 a0).bind fun y1 => some (decide (y1 ≥ 0))
def m_gleeref2_SilentOf_l1 (a2 : Int) (i9 : Nat) (x10 : (List TTone)) (u13 : (Int × (List TRange))) : Option (Flow (Int × (List TRange)) (List TRange)) :=
  (m_slices_ContainsFunc_api_Tone_api_Tone__gleeref2_SilentOf_1 x10).bind fun y18 => (ifB (!y18) (some (.inl (decide (u13.1 < 0)))) (some (.inl false)) : Option (Bool ⊕ (Flow (Int × (List TRange)) (List TRange)))).bind fun k21 => Sum.fin k21 fun u19 => ifB u19 (some (.nxt ((i9 : Int), u13.2))) ((ifB (!(!y18)) (some (.inl (decide (u13.1 ≥ 0)))) (some (.inl false)) : Option (Bool ⊕ (Flow (Int × (List TRange)) (List TRange)))).bind fun k24 => Sum.fin k24 fun u22 => ifB u22 (ifB (decide ((w64 ((i9 : Int) - u13.1)) ≥ a2)) ((appM 16 u13.2 [(TRange.mk u13.1 (w64 ((i9 : Int) - 1)))]).bind fun q26 => some (.nxt ((-1), q26))) (some (.nxt ((-1), u13.2)))) (some (.nxt (u13.1, u13.2))))
def m_gleeref2_SilentOf (a0 : (List TBar)) (a1 : (List TTone)) (a2 : Int) : Option (List TRange) :=
  (m_gleeref2_InBarsOf a0 a1).bind fun y1 => (appM 24 y1 [[(TTone.mk 0 (TFraction.mk 0 0) ByteArray.empty false)]]).bind fun q6 => (rangeM (m_gleeref2_SilentOf_l1 a2) 0 q6 ((-1), [])).bind fun f16 => Flow.fin f16 fun u13 => some u13.2
def m_slices_Equal_api_Range_api_Range_l1 (a1 : (List TRange)) (i1 : Nat) (x2 : TRange) (u4 : Unit) : Option (Flow Unit Bool) :=
  (getI a1 (i1 : Int)).bind fun e8 => ifB (!(decide (x2 = e8))) (some (.ret false)) (some (.nxt ()))
def m_slices_Equal_api_Range_api_Range (a0 : (List TRange)) (a1 : (List TRange)) : Option Bool :=
  ifB ((a0.length : Int) != (a1.length : Int)) (some false) ((rangeM (m_slices_Equal_api_Range_api_Range_l1 a1) 0 a0 ()).bind fun f7 => Flow.fin f7 fun u4 => some true)
def m_gleelaw2_TonesSound (a0 : (List Int)) : Option Bool :=
  (m_gleemake_Stream_Bars a0 0).bind fun y2 => (m_gleemake_Stream_Tones a0 y2.2 y2.1).bind fun y4 => (m_gleemake_Stream_Pick a0 y4.2 [0, 5, (-12), 60, 64, (-60), (-128), 128]).bind fun y7 => (m_gleemake_Stream_ATime a0 y7.2).bind fun y8 => (m_gleemake_Stream_Pick a0 y8.2 [1, 1, 2, 0, 301]).bind fun y10 => (m_piece_Shift y2.1 y4.1 y7.1).bind fun y12 => (m_piece_Sounds y2.1 y4.1 y8.1).bind fun y14 => (m_piece_Lyrics y2.1 y4.1).bind fun y15 => (m_piece_Silent y2.1 y4.1 y10.1).bind fun y16 => (m_gleeref2_TonesFault y2.1 y4.1).bind fun y18 => (ifB (decide (y10.1 < 1)) ((m_gleelaw2_when true 1).bind fun y22 => (m_gleelaw2_errs [y18, y22]).bind fun y24 => some (.inl y24)) ((m_gleelaw2_when (decide (y10.1 > 300)) 1).bind fun y25 => (m_gleelaw2_errs [y18, y25]).bind fun y27 => some (.inl y27)) : Option (Int ⊕ Bool)).bind fun k21 => Sum.fin k21 fun u19 => (ifB (y18 == 0) ((m_gleeref2_ShiftOf y4.1 y7.1).bind fun y32 => (m_gleeref2_LyricsOf y2.1 y4.1).bind fun y34 => (m_gleeref2_SoundsFault y2.1 y8.1).bind fun y35 => ifB (y35 == 0) ((m_gleeref2_SoundsOf y4.1 y8.1).bind fun y36 => some (.inl (y32.2, y35, y34.2, y36.1, y36.2, y34.1, y32.1))) (some (.inl (y32.2, y35, y34.2, 0, false, y34.1, y32.1)))) (some (.inl (y18, y18, y18, 0, false, ByteArray.empty, []))) : Option ((Int × Int × Int × Int × Bool × ByteArray × (List TTone)) ⊕ Bool)).bind fun k31 => Sum.fin k31 fun u28 => (ifB (u19 == 0) ((m_gleeref2_SilentOf y2.1 y4.1 y10.1).bind fun y42 => some (.inl y42)) (some (.inl [])) : Option ((List TRange) ⊕ Bool)).bind fun k41 => Sum.fin k41 fun u38 => ifB (y12.2 == u28.1) ((m_slices_Equal_api_Tone_api_Tone y12.1 u28.2.2.2.2.2.2).bind fun y45 => ifB y45 (ifB (y14.2.2 == u28.2.1) (ifB (y14.1 == u28.2.2.2.1) (ifB (y14.2.1 == u28.2.2.2.2.1) (ifB (y15.2 == u28.2.2.1) (ifB (y15.1.toList == u28.2.2.2.2.2.1.toList) (ifB (y16.2 == u19) ((m_slices_Equal_api_Range_api_Range y16.1 u38).bind fun y46 => ifB y46 (m_gleelaw2_written.bind fun y47 => some y47) (some false)) (some false)) (some false)) (some false)) (some false)) (some false)) (some false)) (some false)) (some false)
end
end Go.G
