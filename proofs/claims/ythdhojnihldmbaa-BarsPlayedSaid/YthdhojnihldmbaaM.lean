/- The models. Written by program. -/
import Derived.Test.YthdhojnihldmbaaJ9
namespace Go.G
open Go Go.J
noncomputable section
structure Fraction where
  Num : Int
  Den : Int
  deriving DecidableEq, Repr, Inhabited
structure Bar where
  Beats : Int
  Unit : Int
  Close : Int
  Ending : Int
  Open : Bool
  deriving DecidableEq, Repr, Inhabited
structure piece_repeat where
  from_ : Int
  to_ : Int
  times : Int
  deriving DecidableEq, Repr, Inhabited
def m_kit_Outside (a0 : Int) (a1 : Int) (a2 : Int) : Option Bool :=
  ifB (decide (a0 < a1)) (some true) (some (decide (a0 > a2)))
def m_gleeref2_in (a0 : Int) (a1 : Int) (a2 : Int) : Option Bool :=
  ifB (decide (a1 ≤ a0)) (some (decide (a0 ≤ a2))) (some false)
def m_gleemake_Below (a0 : Int) (a1 : Int) : Option Int :=
  ifB (decide (a1 < 1)) (some 0) ((remM a0 a1).bind fun z1 => ifB (decide (z1 < 0)) (some (w64 (z1 + a1))) (some z1))
def m_gleeref2_divisor_l1  (u1 : (Int × Int)) : Option (Flow (Int × Int) Int) :=
  ifB (u1.2 != 0) ((remM u1.1 u1.2).bind fun z5 => some (.nxt (u1.2, z5))) (some (.brk (u1.1, u1.2)))
def m_gleeref2_divisor (a0 : Int) (a1 : Int) : Option Int :=
  (loopM m_gleeref2_divisor_l1 (a0, a1)).bind fun f4 => Flow.fin f4 fun u1 => some (max u1.1 (w64 (0 - u1.1)))
def m_kit_Lowest_l1  (u2 : (Int × Int)) : Option (Flow (Int × Int) Fraction) :=
  ifB (u2.2 != 0) ((remM u2.1 u2.2).bind fun z6 => some (.nxt (u2.2, z6))) (some (.brk (u2.1, u2.2)))
def m_kit_Lowest (a0 : Int) (a1 : Int) : Option Fraction :=
  (loopM m_kit_Lowest_l1 (a0, a1)).bind fun f5 => Flow.fin f5 fun u2 => (quoM a0 u2.1).bind fun z7 => (quoM a1 u2.1).bind fun z8 => some (Fraction.mk z7 z8)
def m_slices_Index_int_int_l1 (a1 : Int) (i1 : Nat) (x2 : Int) (u4 : Int) : Option (Flow Int Int) :=
  ifB (a1 == x2) (some (.ret (i1 : Int))) (some (.nxt u4))
def m_slices_Index_int_int (a0 : (List Int)) (a1 : Int) : Option Int :=
  (rangeM (m_slices_Index_int_int_l1 a1) 0 a0 0).bind fun f7 => Flow.fin f7 fun u4 => some (-1)
def m_slices_Contains_int_int (a0 : (List Int)) (a1 : Int) : Option Bool :=
  (m_slices_Index_int_int a0 a1).bind fun y1 => some (decide (y1 ≥ 0))
def m_piece_isUnit (a0 : Int) : Option Bool :=
  (m_slices_Contains_int_int ([1, 2, 4, 8, 16]) a0).bind fun y2 => some y2
def m_piece_barFault (a0 : Bar) : Option Int :=
  ((m_kit_Outside a0.Beats 1 16).bind fun y5 => ifB y5 (some (.inl true)) ((m_piece_isUnit a0.Unit).bind fun y6 => ifB (!y6) (some (.inl true)) (ifB (a0.Close != 0) ((m_kit_Outside a0.Close 2 9).bind fun y7 => ifB y7 (some (.inl true)) ((m_kit_Outside a0.Ending 0 9).bind fun y8 => some (.inl y8))) ((m_kit_Outside a0.Ending 0 9).bind fun y9 => some (.inl y9)))) : Option (Bool ⊕ Int)).bind fun k4 => Sum.fin k4 fun u2 => ifB u2 (some 1) (some 0)
def m_piece_long (a0 : Bar) : Option Int :=
  (quoM 192 a0.Unit).bind fun z2 => some (w64 (a0.Beats * z2))
def m_piece_fraction (a0 : Int) : Option Fraction :=
  (m_kit_Lowest a0 192).bind fun y2 => some y2
def m_gleeref2_barUnits (a0 : Bar) : Option Int :=
  (quoM (w64 (a0.Beats * 192)) a0.Unit).bind fun z2 => some z2
def m_gleeref2_Lowest (a0 : Int) (a1 : Int) : Option Fraction :=
  (m_gleeref2_divisor a0 a1).bind fun y2 => (quoM a0 y2).bind fun z3 => (quoM a1 y2).bind fun z4 => some (Fraction.mk z3 z4)
def m_piece_rulesFault_l1 (a0 : (List Bar)) (i1 : Nat) (x2 : Bar) (u4 : (Int × Bool)) : Option (Flow (Int × Bool) Int) :=
  (m_piece_barFault x2).bind fun y9 => ifB (y9 != 0) (some (.ret y9)) ((ifB x2.Open (some (.inl u4.2)) (some (.inl false)) : Option (Bool ⊕ (Flow (Int × Bool) Int))).bind fun k12 => Sum.fin k12 fun u10 => ifB u10 (some (.ret 16)) ((ifB (!x2.Open) (ifB (!u4.2) (ifB (x2.Close != 0) (some (.inl true)) (some (.inl (x2.Ending != 0)))) (some (.inl false))) (some (.inl false)) : Option (Bool ⊕ (Flow (Int × Bool) Int))).bind fun k15 => Sum.fin k15 fun u13 => ifB u13 (some (.ret 16)) (ifB u4.2 ((getI a0 (w64 ((i1 : Int) - 1))).bind fun e16 => ifB (decide (x2.Ending < e16.Ending)) (some (.ret 16)) (ifB u4.2 (some (.nxt (u4.1, x2.Close == 0))) (ifB x2.Open (some (.nxt (u4.1, x2.Close == 0))) (some (.nxt (u4.1, false)))))) (ifB u4.2 (some (.nxt (u4.1, x2.Close == 0))) (ifB x2.Open (some (.nxt (u4.1, x2.Close == 0))) (some (.nxt (u4.1, false))))))))
def m_piece_rulesFault (a0 : (List Bar)) : Option Int :=
  (rangeM (m_piece_rulesFault_l1 a0) 0 a0 (0, false)).bind fun f7 => Flow.fin f7 fun u4 => some 0
def m_piece_repeats_l3 (x20 : piece_repeat) (i30 : Nat) (x31 : Bar) (u33 : (Bool × (List piece_repeat))) : Option (Flow (Bool × (List piece_repeat)) (Flow (Bool × (List piece_repeat)) ((List piece_repeat) × Bool))) :=
  (ifB (decide (x20.times > 1)) (some (.inl (decide (x31.Ending > x20.times)))) (some (.inl false)) : Option (Bool ⊕ (Flow (Bool × (List piece_repeat)) (Flow (Bool × (List piece_repeat)) ((List piece_repeat) × Bool))))).bind fun k40 => Sum.fin k40 fun u38 => ifB u38 (some (.ret (.ret ([], false)))) (some (.nxt (u33.1, u33.2)))
def m_piece_repeats_l2 (a0 : (List Bar)) (i19 : Nat) (x20 : piece_repeat) (u23 : (Bool × (List piece_repeat))) : Option (Flow (Bool × (List piece_repeat)) ((List piece_repeat) × Bool)) :=
  (sliceI a0 x20.from_ x20.to_).bind fun q28 => (rangeM (m_piece_repeats_l3 x20) 0 q28 (u23.1, u23.2)).bind fun f36 => Flow.fin f36 fun u33 => some (.nxt (u33.1, u33.2))
def m_piece_repeats_l1  (i1 : Nat) (x2 : Bar) (u5 : (Int × (List piece_repeat))) : Option (Flow (Int × (List piece_repeat)) ((List piece_repeat) × Bool)) :=
  (ifB x2.Open (some (.inl (i1 : Int))) (some (.inl u5.1)) : Option (Int ⊕ (Flow (Int × (List piece_repeat)) ((List piece_repeat) × Bool)))).bind fun k12 => Sum.fin k12 fun u10 => ifB (decide (u10 < 0)) ((appM 24 u5.2 ([(piece_repeat.mk (i1 : Int) (w64 ((i1 : Int) + 1)) 1)])).bind fun q14 => some (.nxt (u10, q14))) (ifB (decide (x2.Close > 0)) ((appM 24 u5.2 ([(piece_repeat.mk u10 (w64 ((i1 : Int) + 1)) x2.Close)])).bind fun q17 => some (.nxt ((-1), q17))) (some (.nxt (u10, u5.2))))
def m_piece_repeats (a0 : (List Bar)) : Option ((List piece_repeat) × Bool) :=
  (rangeM m_piece_repeats_l1 0 a0 ((-1), [])).bind fun f8 => Flow.fin f8 fun u5 => (rangeM (m_piece_repeats_l2 a0) 0 u5.2 (false, [])).bind fun f26 => Flow.fin f26 fun u23 => some (u5.2, decide (u5.1 < 0))
def m_piece_order_l3 (a0 : (List Bar)) (a2 : Int) (x2 : piece_repeat) (u10 : (Int × (List Int))) (u14 : (Int × (List Int))) : Option (Flow (Int × (List Int)) (Flow (Int × (List Int)) (Flow (List Int) (List Int)))) :=
  (ifB (decide (u14.1 < x2.to_)) (some (.inl (decide ((u14.2.length : Int) ≤ a2)))) (some (.inl false)) : Option (Bool ⊕ (Flow (Int × (List Int)) (Flow (Int × (List Int)) (Flow (List Int) (List Int)))))).bind fun k20 => Sum.fin k20 fun u18 => ifB u18 (((getI a0 u14.1).bind fun e24 => ifB (e24.Ending == 0) (some (.inl true)) ((getI a0 u14.1).bind fun e25 => some (.inl (e25.Ending == u10.1))) : Option (Bool ⊕ (Flow (Int × (List Int)) (Flow (Int × (List Int)) (Flow (List Int) (List Int)))))).bind fun k23 => Sum.fin k23 fun u21 => ifB u21 ((appM 8 u14.2 ([u14.1])).bind fun q27 => some (.nxt (w64 (u14.1 + 1), q27))) (some (.nxt (w64 (u14.1 + 1), u14.2)))) (some (.brk (u14.1, u14.2)))
def m_piece_order_l2 (a0 : (List Bar)) (a2 : Int) (x2 : piece_repeat) (u10 : (Int × (List Int))) : Option (Flow (Int × (List Int)) (Flow (List Int) (List Int))) :=
  ifB (decide (u10.1 ≤ x2.times)) ((loopM (m_piece_order_l3 a0 a2 x2 u10) (x2.from_, u10.2)).bind fun f17 => Flow.fin f17 fun u14 => some (.nxt (w64 (u10.1 + 1), u14.2))) (some (.brk (u10.1, u10.2)))
def m_piece_order_l1 (a0 : (List Bar)) (a2 : Int) (i1 : Nat) (x2 : piece_repeat) (u5 : (List Int)) : Option (Flow (List Int) (List Int)) :=
  (loopM (m_piece_order_l2 a0 a2 x2) (1, u5)).bind fun f13 => Flow.fin f13 fun u10 => some (.nxt u10.2)
def m_piece_order (a0 : (List Bar)) (a1 : (List piece_repeat)) (a2 : Int) : Option (List Int) :=
  (rangeM (m_piece_order_l1 a0 a2) 0 a1 ([])).bind fun f8 => Flow.fin f8 fun u5 => some u5
def m_piece_CheckBars (a0 : (List Bar)) : Option Int :=
  ifB ((a0.length : Int) == 0) (some 8) (ifB (decide ((a0.length : Int) > 300)) (some 2) ((m_piece_rulesFault a0).bind fun y1 => ifB (y1 != 0) (some y1) ((m_piece_repeats a0).bind fun y2 => ifB (!y2.2) (some 16) ((m_piece_order a0 y2.1 2000).bind fun y4 => ifB (decide ((y4.length : Int) > 2000)) (some 2) (some 0)))))
def m_piece_played (a0 : (List Bar)) : Option (List Int) :=
  (m_piece_repeats a0).bind fun y1 => (m_piece_order a0 y1.1 2000).bind fun y3 => some y3
def m_piece_Order (a0 : (List Bar)) : Option ((List Int) × Int) :=
  (m_piece_CheckBars a0).bind fun y1 => ifB (y1 != 0) (some ([], y1)) ((m_piece_played a0).bind fun y3 => some (y3, 0))
def m_piece_Long_l1 (a0 : (List Bar)) (i5 : Nat) (x6 : Int) (u8 : Int) : Option (Flow Int (Fraction × Int)) :=
  (getI a0 x6).bind fun e12 => (m_piece_long e12).bind fun y13 => some (.nxt (w64 (u8 + y13)))
def m_piece_Long (a0 : (List Bar)) : Option (Fraction × Int) :=
  (m_piece_CheckBars a0).bind fun y2 => ifB (y2 != 0) (some ((Fraction.mk 0 0), y2)) ((m_piece_played a0).bind fun y3 => (rangeM (m_piece_Long_l1 a0) 0 y3 0).bind fun f11 => Flow.fin f11 fun u8 => (m_piece_fraction u8).bind fun y14 => some (y14, 0))
def m_piece_Begins_l1  (i3 : Nat) (x4 : Bar) (u7 : (Int × (List Fraction))) : Option (Flow (Int × (List Fraction)) ((List Fraction) × Int)) :=
  (m_piece_fraction u7.1).bind fun y12 => (appM 16 u7.2 ([y12])).bind fun q14 => (m_piece_long x4).bind fun y16 => some (.nxt (w64 (u7.1 + y16), q14))
def m_piece_Begins (a0 : (List Bar)) : Option ((List Fraction) × Int) :=
  (m_piece_CheckBars a0).bind fun y1 => ifB (y1 != 0) (some ([], y1)) ((rangeM m_piece_Begins_l1 0 a0 (0, [])).bind fun f10 => Flow.fin f10 fun u7 => some (u7.2, 0))
def m_gleeref2_OrderOf_l4 (a0 : (List Bar)) (u10 : Int) (u15 : (Int × (List Int))) (u20 : (Int × (List Int))) : Option (Flow (Int × (List Int)) (Flow (Int × (List Int)) (Flow (Int × (List Int)) (List Int)))) :=
  ifB (decide (u20.1 ≤ u10)) (((getI a0 u20.1).bind fun e27 => ifB (e27.Ending == 0) (some (.inl true)) ((getI a0 u20.1).bind fun e28 => some (.inl (e28.Ending == u15.1))) : Option (Bool ⊕ (Flow (Int × (List Int)) (Flow (Int × (List Int)) (Flow (Int × (List Int)) (List Int)))))).bind fun k26 => Sum.fin k26 fun u24 => ifB u24 ((appM 8 u20.2 ([u20.1])).bind fun q30 => some (.nxt (w64 (u20.1 + 1), q30))) (some (.nxt (w64 (u20.1 + 1), u20.2)))) (some (.brk (u20.1, u20.2)))
def m_gleeref2_OrderOf_l3 (a0 : (List Bar)) (u2 : (Int × (List Int))) (u10 : Int) (u15 : (Int × (List Int))) : Option (Flow (Int × (List Int)) (Flow (Int × (List Int)) (List Int))) :=
  (getI a0 u10).bind fun e19 => ifB (decide (u15.1 ≤ e19.Close)) ((loopM (m_gleeref2_OrderOf_l4 a0 u10 u15) (u2.1, u15.2)).bind fun f23 => Flow.fin f23 fun u20 => some (.nxt (w64 (u15.1 + 1), u20.2))) (some (.brk (u15.1, u15.2)))
def m_gleeref2_OrderOf_l2 (a0 : (List Bar)) (u10 : Int) : Option (Flow Int (Flow (Int × (List Int)) (List Int))) :=
  (getI a0 u10).bind fun e14 => ifB (e14.Close == 0) (some (.nxt (w64 (u10 + 1)))) (some (.brk u10))
def m_gleeref2_OrderOf_l1 (a0 : (List Bar)) (u2 : (Int × (List Int))) : Option (Flow (Int × (List Int)) (List Int)) :=
  ifB (decide (u2.1 < (a0.length : Int))) ((getI a0 u2.1).bind fun e6 => ifB (!e6.Open) ((appM 8 u2.2 ([u2.1])).bind fun q8 => some (.nxt (w64 (u2.1 + 1), q8))) ((loopM (m_gleeref2_OrderOf_l2 a0) u2.1).bind fun f13 => Flow.fin f13 fun u10 => (loopM (m_gleeref2_OrderOf_l3 a0 u2 u10) (1, u2.2)).bind fun f18 => Flow.fin f18 fun u15 => some (.nxt (w64 (u10 + 1), u15.2)))) (some (.brk (u2.1, u2.2)))
def m_gleeref2_OrderOf (a0 : (List Bar)) : Option (List Int) :=
  (loopM (m_gleeref2_OrderOf_l1 a0) (0, [])).bind fun f5 => Flow.fin f5 fun u2 => some u2.2
def m_gleeref2_BeginsOf_l1  (i1 : Nat) (x2 : Bar) (u5 : (Int × (List Fraction))) : Option (Flow (Int × (List Fraction)) (List Fraction)) :=
  (m_gleeref2_Lowest u5.1 192).bind fun y10 => (appM 16 u5.2 ([y10])).bind fun q12 => (m_gleeref2_barUnits x2).bind fun y14 => some (.nxt (w64 (u5.1 + y14), q12))
def m_gleeref2_BeginsOf (a0 : (List Bar)) : Option (List Fraction) :=
  (rangeM m_gleeref2_BeginsOf_l1 0 a0 (0, [])).bind fun f8 => Flow.fin f8 fun u5 => some u5.2
def m_gleeref2_LongOf_l1 (a0 : (List Bar)) (i4 : Nat) (x5 : Int) (u7 : Int) : Option (Flow Int Fraction) :=
  (getI a0 x5).bind fun e11 => (m_gleeref2_barUnits e11).bind fun y12 => some (.nxt (w64 (u7 + y12)))
def m_gleeref2_LongOf (a0 : (List Bar)) : Option Fraction :=
  (m_gleeref2_OrderOf a0).bind fun y2 => (rangeM (m_gleeref2_LongOf_l1 a0) 0 y2 0).bind fun f10 => Flow.fin f10 fun u7 => (m_gleeref2_Lowest u7 192).bind fun y13 => some y13
def m_gleeref2_BarsFault_l1  (i1 : Nat) (x2 : Bar) (u4 : (Int × Bool × Int × Int × Bool)) : Option (Flow (Int × Bool × Int × Int × Bool) Int) :=
  ((m_gleeref2_in x2.Beats 1 16).bind fun y12 => ifB (!y12) (some (.inl true)) ((m_slices_Contains_int_int ([1, 2, 4, 8, 16]) x2.Unit).bind fun y14 => ifB (!y14) (some (.inl true)) (ifB (x2.Close != 0) ((m_gleeref2_in x2.Close 2 9).bind fun y15 => ifB (!y15) (some (.inl true)) ((m_gleeref2_in x2.Ending 0 9).bind fun y16 => some (.inl (!y16)))) ((m_gleeref2_in x2.Ending 0 9).bind fun y17 => some (.inl (!y17))))) : Option (Bool ⊕ (Flow (Int × Bool × Int × Int × Bool) Int))).bind fun k11 => Sum.fin k11 fun u9 => ifB u9 (some (.ret 1)) ((ifB x2.Open (ifB u4.2.1 (some (.inr (.ret 16))) (some (.inl (true, 0, 0)))) (some (.inl (u4.2.1, u4.2.2.1, u4.2.2.2.1))) : Option ((Bool × Int × Int) ⊕ (Flow (Int × Bool × Int × Int × Bool) Int))).bind fun k20 => Sum.fin k20 fun u18 => (ifB (!u18.1) (ifB (x2.Close != 0) (some (.inl true)) (ifB (x2.Ending != 0) (some (.inl true)) (ifB u18.1 (some (.inl (decide (x2.Ending < u18.2.1)))) (some (.inl false))))) (ifB u18.1 (some (.inl (decide (x2.Ending < u18.2.1)))) (some (.inl false))) : Option (Bool ⊕ (Flow (Int × Bool × Int × Int × Bool) Int))).bind fun k23 => Sum.fin k23 fun u21 => ifB u21 (some (.ret 16)) ((ifB u18.1 (some (.inl (x2.Ending, max u18.2.2 x2.Ending))) (some (.inl (u18.2.1, u18.2.2))) : Option ((Int × Int) ⊕ (Flow (Int × Bool × Int × Int × Bool) Int))).bind fun k26 => Sum.fin k26 fun u24 => ifB (x2.Close != 0) (ifB u4.2.2.2.2 (some (.nxt (u4.1, false, u24.1, u24.2, true))) (some (.nxt (u4.1, false, u24.1, u24.2, decide (u24.2 > x2.Close))))) (some (.nxt (u4.1, u18.1, u24.1, u24.2, u4.2.2.2.2)))))
def m_gleeref2_BarsFault (a0 : (List Bar)) : Option Int :=
  ifB ((a0.length : Int) == 0) (some 8) (ifB (decide ((a0.length : Int) > 300)) (some 2) ((rangeM m_gleeref2_BarsFault_l1 0 a0 (0, false, 0, 0, false)).bind fun f7 => Flow.fin f7 fun u4 => (ifB u4.2.1 (some (.inl true)) (some (.inl u4.2.2.2.2)) : Option (Bool ⊕ Int)).bind fun k29 => Sum.fin k29 fun u27 => ifB u27 (some 16) ((m_gleeref2_OrderOf a0).bind fun y30 => ifB (decide ((y30.length : Int) > 2000)) (some 2) (some 0))))
def m_slices_Equal_int_int_l1 (a1 : (List Int)) (i1 : Nat) (x2 : Int) (u4 : Bool) : Option (Flow Bool Bool) :=
  (getI a1 (i1 : Int)).bind fun e8 => ifB (x2 != e8) (some (.ret false)) (some (.nxt u4))
def m_slices_Equal_int_int (a0 : (List Int)) (a1 : (List Int)) : Option Bool :=
  ifB ((a0.length : Int) != (a1.length : Int)) (some false) ((rangeM (m_slices_Equal_int_int_l1 a1) 0 a0 false).bind fun f7 => Flow.fin f7 fun u4 => some true)
def m_slices_Equal_api_Fraction_api_Fraction_l1 (a1 : (List Fraction)) (i1 : Nat) (x2 : Fraction) (u4 : Bool) : Option (Flow Bool Bool) :=
  (getI a1 (i1 : Int)).bind fun e8 => ifB (!(decide (x2 = e8))) (some (.ret false)) (some (.nxt u4))
def m_slices_Equal_api_Fraction_api_Fraction (a0 : (List Fraction)) (a1 : (List Fraction)) : Option Bool :=
  ifB ((a0.length : Int) != (a1.length : Int)) (some false) ((rangeM (m_slices_Equal_api_Fraction_api_Fraction_l1 a1) 0 a0 false).bind fun f7 => Flow.fin f7 fun u4 => some true)
def m_gleelaw2_written  : Option Bool :=
  (m_piece_Order ([(Bar.mk 1 4 2 0 true)])).bind fun y2 => ifB (y2.2 == 0) ((m_slices_Equal_int_int y2.1 ([0, 0])).bind fun y5 => some y5) (some false)
def m_gleemake_Stream_Next (a0_0 : (List Int)) (a0_1 : Int) (a1 : Int) : Option (Int × Int) :=
  ifB ((a0_0.length : Int) == 0) ((m_gleemake_Below (w64 ((w64 (a0_1 + 1)) * 7919)) a1).bind fun y1 => some (y1, w64 (a0_1 + 1))) ((remM (w64 ((w64 (a0_1 + 1)) - 1)) (a0_0.length : Int)).bind fun z2 => (quoM (w64 ((w64 (a0_1 + 1)) - 1)) (a0_0.length : Int)).bind fun z3 => (getI a0_0 z2).bind fun e4 => (m_gleemake_Below e4 1073741824).bind fun y5 => (m_gleemake_Below (w64 (y5 + (w64 (z3 * (w64 (7919 + z2)))))) a1).bind fun y6 => some (y6, w64 (a0_1 + 1)))
def m_gleemake_Stream_Flip (a0_0 : (List Int)) (a0_1 : Int) (a1 : Int) : Option (Bool × Int) :=
  (m_gleemake_Stream_Next a0_0 a0_1 a1).bind fun y1 => some (y1.1 == 0, y1.2)
def m_gleemake_Stream_Range (a0_0 : (List Int)) (a0_1 : Int) (a1 : Int) (a2 : Int) : Option (Int × Int) :=
  ifB (decide (a2 < a1)) (some (a1, a0_1)) ((m_gleemake_Stream_Next a0_0 a0_1 (w64 ((w64 (a2 - a1)) + 1))).bind fun y1 => some (w64 (a1 + y1.1), y1.2))
def m_gleemake_Stream_Pick (a0_0 : (List Int)) (a0_1 : Int) (a1 : (List Int)) : Option (Int × Int) :=
  (m_gleemake_Stream_Next a0_0 a0_1 (a1.length : Int)).bind fun y1 => (getI a1 y1.1).bind fun e2 => some (e2, y1.2)
def m_gleemake_Stream_Odd (a0_0 : (List Int)) (a0_1 : Int) (a1 : Int) (a2 : Int) : Option (Int × Int) :=
  (m_gleemake_Stream_Flip a0_0 a0_1 12).bind fun y1 => ifB y1.1 ((m_gleemake_Stream_Pick a0_0 y1.2 ([w64 (a1 - 1), w64 (a2 + 1), a1, a2, (-1099511627776), 1099511627776])).bind fun y3 => some (y3.1, y3.2)) ((m_gleemake_Stream_Range a0_0 y1.2 a1 a2).bind fun y4 => some (y4.1, y4.2))
def m_gleemake_Stream_RightBars_1 (a0_0_0 : (List Int)) (a0_0_1 : Int) : Option (Bar × Int) :=
  ((m_gleemake_Stream_Pick a0_0_0 a0_0_1 ([1, 2, 3, 4])).bind fun y6 => (m_gleemake_Stream_Pick a0_0_0 y6.2 ([4, 4, 2, 8])).bind fun y8 => some (.inl (y6.1, y8.1, y8.2)) : Option ((Int × Int × Int) ⊕ (Bar × Int))).bind fun k4 => Sum.fin k4 fun u2 => some ((Bar.mk u2.1 u2.2.1 0 0 false), u2.2.2)
def m_gleemake_Stream_RightBars_l2 (a0_0 : (List Int)) (y17 : (Int × Int)) (y16 : (Int × Int)) (i18 : Nat) (x19 : Nat) (u21 : (Int × Int × (List Bar))) : Option (Flow (Int × Int × (List Bar)) (Flow ((List Bar) × Int) ((List Bar) × Int))) :=
  (m_gleemake_Stream_RightBars_1 a0_0 u21.2.1).bind fun y25 => (ifB (decide ((i18 : Int) > 0)) ((m_gleemake_Stream_Flip a0_0 y25.2 2).bind fun y30 => some (.inl (y30.1, y30.2))) (some (.inl (false, y25.2))) : Option ((Bool × Int) ⊕ (Flow (Int × Int × (List Bar)) (Flow ((List Bar) × Int) ((List Bar) × Int))))).bind fun k29 => Sum.fin k29 fun u27 => (ifB u27.1 (some (.inl (min y17.1 (w64 (u21.1 + 1))))) (some (.inl u21.1)) : Option (Int ⊕ (Flow (Int × Int × (List Bar)) (Flow ((List Bar) × Int) ((List Bar) × Int))))).bind fun k33 => Sum.fin k33 fun u31 => (ifB ((i18 : Int) == (w64 (y16.1 - 1))) (some (.inl y17.1)) (some (.inl y25.1.Close)) : Option (Int ⊕ (Flow (Int × Int × (List Bar)) (Flow ((List Bar) × Int) ((List Bar) × Int))))).bind fun k36 => Sum.fin k36 fun u34 => (appM 40 u21.2.2 ([(Bar.mk y25.1.Beats y25.1.Unit u34 u31 ((i18 : Int) == 0))])).bind fun q38 => some (.nxt (u31, u27.2, q38))
def m_gleemake_Stream_RightBars_l1 (a0_0 : (List Int)) (i3 : Nat) (x4 : Nat) (u7 : ((List Bar) × Int)) : Option (Flow ((List Bar) × Int) ((List Bar) × Int)) :=
  (m_gleemake_Stream_Flip a0_0 u7.2 2).bind fun y11 => ifB (!y11.1) ((m_gleemake_Stream_RightBars_1 a0_0 y11.2).bind fun y12 => (appM 40 u7.1 ([y12.1])).bind fun q14 => some (.nxt (q14, y12.2))) ((m_gleemake_Stream_Range a0_0 y11.2 1 3).bind fun y16 => (m_gleemake_Stream_Range a0_0 y16.2 2 3).bind fun y17 => (rangeI y16.1).bind fun L40 => (rangeM (m_gleemake_Stream_RightBars_l2 a0_0 y17 y16) 0 L40 (0, y17.2, u7.1)).bind fun f24 => Flow.fin f24 fun u21 => some (.nxt (u21.2.2, u21.2.1)))
def m_gleemake_Stream_RightBars (a0_0 : (List Int)) (a0_1 : Int) : Option ((List Bar) × Int) :=
  (m_gleemake_Stream_Range a0_0 a0_1 1 4).bind fun y2 => (rangeI y2.1).bind fun L41 => (rangeM (m_gleemake_Stream_RightBars_l1 a0_0) 0 L41 ([], y2.2)).bind fun f10 => Flow.fin f10 fun u7 => some (u7.1, u7.2)
def m_gleemake_Stream_Bars (a0_0 : (List Int)) (a0_1 : Int) : Option ((List Bar) × Int) :=
  (m_gleemake_Stream_RightBars a0_0 a0_1).bind fun y1 => (m_gleemake_Stream_Flip a0_0 y1.2 10).bind fun y3 => (ifB y3.1 ((m_gleemake_Stream_Next a0_0 y3.2 (y1.1.length : Int)).bind fun y7 => (getI y1.1 y7.1).bind fun e8 => (m_gleemake_Stream_Next a0_0 y7.2 4).bind fun y9 => ifB (y9.1 == 0) ((m_gleemake_Stream_Odd a0_0 y9.2 1 16).bind fun y10 => (m_gleemake_Stream_Pick a0_0 y10.2 ([4, 3, 0, 32])).bind fun y12 => some (.inl (y12.2, ((y1.1.set y7.1.toNat (Bar.mk y10.1 e8.Unit e8.Close e8.Ending e8.Open)).set y7.1.toNat (Bar.mk ((Bar.mk y10.1 e8.Unit e8.Close e8.Ending e8.Open).Beats) y12.1 ((Bar.mk y10.1 e8.Unit e8.Close e8.Ending e8.Open).Close) ((Bar.mk y10.1 e8.Unit e8.Close e8.Ending e8.Open).Ending) ((Bar.mk y10.1 e8.Unit e8.Close e8.Ending e8.Open).Open)))))) (ifB (y9.1 == 1) (some (.inl (y9.2, (y1.1.set y7.1.toNat (Bar.mk e8.Beats e8.Unit e8.Close e8.Ending (!e8.Open)))))) (ifB (y9.1 == 2) ((m_gleemake_Stream_Pick a0_0 y9.2 ([0, 1, 2, 9, 10])).bind fun y14 => some (.inl (y14.2, (y1.1.set y7.1.toNat (Bar.mk e8.Beats e8.Unit y14.1 e8.Ending e8.Open))))) ((m_gleemake_Stream_Pick a0_0 y9.2 ([0, 1, 5, 9, (-1)])).bind fun y16 => some (.inl (y16.2, (y1.1.set y7.1.toNat (Bar.mk e8.Beats e8.Unit e8.Close y16.1 e8.Open)))))))) (some (.inl (y3.2, y1.1))) : Option ((Int × (List Bar)) ⊕ ((List Bar) × Int))).bind fun k6 => Sum.fin k6 fun u4 => (m_gleemake_Stream_Flip a0_0 u4.1 60).bind fun y17 => ifB y17.1 (some ([], y17.2)) (some (u4.2, y17.2))
def m_gleelaw2_BarsPlayed_l1  (u8 : (List Bar)) : Option (Flow (List Bar) ((List Bar) ⊕ Bool)) :=
  (ifB (decide ((u8.length : Int) > 0)) (some (.inl (decide ((u8.length : Int) < 297)))) (some (.inl false)) : Option (Bool ⊕ (Flow (List Bar) ((List Bar) ⊕ Bool)))).bind fun k14 => Sum.fin k14 fun u12 => ifB u12 ((appM 40 u8 u8).bind fun q15 => some (.nxt q15)) (some (.brk u8))
def m_gleelaw2_BarsPlayed (a0 : (List Int)) : Option Bool :=
  (m_gleemake_Stream_Bars a0 0).bind fun y2 => (m_gleemake_Stream_Flip a0 y2.2 30).bind fun y4 => (ifB y4.1 ((loopM m_gleelaw2_BarsPlayed_l1 y2.1).bind fun f11 => Flow.fin f11 fun u8 => some (.inl u8)) (some (.inl y2.1)) : Option ((List Bar) ⊕ Bool)).bind fun k7 => Sum.fin k7 fun u5 => (m_piece_Order u5).bind fun y17 => (m_piece_Long u5).bind fun y19 => (m_piece_Begins u5).bind fun y21 => (m_gleeref2_BarsFault u5).bind fun y23 => (ifB (y23 == 0) ((m_gleeref2_OrderOf u5).bind fun y30 => (m_gleeref2_LongOf u5).bind fun y32 => (m_gleeref2_BeginsOf u5).bind fun y33 => some (.inl (y30, y33, y32.Num, y32.Den))) (some (.inl ([], [], 0, 0))) : Option (((List Int) × (List Fraction) × Int × Int) ⊕ Bool)).bind fun k29 => Sum.fin k29 fun u27 => (m_piece_CheckBars u5).bind fun y37 => ifB (y37 == y23) (ifB (y17.2 == y23) ((m_slices_Equal_int_int y17.1 u27.1).bind fun y38 => ifB y38 (ifB (y19.2 == y23) (ifB (decide (y19.1 = (Fraction.mk u27.2.2.1 u27.2.2.2))) (ifB (y21.2 == y23) ((m_slices_Equal_api_Fraction_api_Fraction y21.1 u27.2.1).bind fun y39 => ifB y39 (m_gleelaw2_written.bind fun y40 => some y40) (some false)) (some false)) (some false)) (some false)) (some false)) (some false)) (some false)
end
end Go.G
