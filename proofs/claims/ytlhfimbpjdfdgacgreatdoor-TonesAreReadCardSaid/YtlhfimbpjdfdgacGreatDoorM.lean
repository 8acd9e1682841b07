/- Models of the functions that the row reaches, in plain terms. -/
import Derived.Test.YtlhfimbpjdfdgacGreatDoorXM
namespace Go.G
open Go Go.J
set_option linter.unusedVariables false
noncomputable section
structure Tgleemake_Stream where
  L : (List Int)
  at_ : Int
  deriving DecidableEq, Inhabited
structure TFraction where
  Num : Int
  Den : Int
  deriving DecidableEq, Inhabited
structure TTone where
  Note : Int
  Long : TFraction
  Text : ByteArray
  Tied : Bool
  deriving DecidableEq, Inhabited
structure TBar where
  Beats : Int
  Unit : Int
  Close : Int
  Ending : Int
  Open : Bool
  deriving DecidableEq, Inhabited
structure TChord where
  Root : Int
  Kind : Int
  Turn : Int
  deriving DecidableEq, Inhabited
structure TCame where
  At : Int
  Singer : ByteArray
  Left : Bool
  deriving DecidableEq, Inhabited
structure TItem where
  Key : ByteArray
  Places : ByteArray
  Long : Int
  Parts : (List ByteArray)
  deriving DecidableEq, Inhabited
structure TProgram where
  Items : (List TItem)
  Change : Int
  Clap : Int
  Break : Int
  Half : Int
  deriving DecidableEq, Inhabited
structure TAct where
  Site : ByteArray
  No : Int
  At : Int
  Kind : Int
  Who : ByteArray
  Motion : ByteArray
  Cents : Int
  Yes : Bool
  Of : ByteArray
  Other : Int
  deriving DecidableEq, Inhabited
structure TWindow where
  From : Int
  To : Int
  deriving DecidableEq, Inhabited
structure Tpiece_repeat where
  from_ : Int
  to_ : Int
  times : Int
  deriving DecidableEq, Inhabited
structure Tclub_stay where
  since : Int
  till : Int
  cents : Int
  deriving DecidableEq, Inhabited
structure Tclub_own where
  site : ByteArray
  no : Int
  deriving DecidableEq, Inhabited
structure Tclub_uses where
  who : Bool
  motion : Bool
  cents : Bool
  yes : Bool
  undo : Bool
  deriving DecidableEq, Inhabited
def m_gleemake_Below (a0 : Int) (a1 : Int) : Option Int :=
  ifB (decide (a1 < 1)) (some 0) ((remM a0 a1).bind fun z1 => ifB (decide (z1 < 0)) (some (w64 (z1 + a1))) (some z1))
def m_gleemake_Stream_Next (a0_0 : (List Int)) (a0_1 : Int) (a1 : Int) : Option (Int × Int) :=
  ifB ((a0_0.length : Int) == 0) ((m_gleemake_Below (w64 ((w64 (a0_1 + 1)) * 7919)) a1).bind fun y1 => some (y1, w64 (a0_1 + 1))) ((remM (w64 ((w64 (a0_1 + 1)) - 1)) (a0_0.length : Int)).bind fun z2 => (quoM (w64 ((w64 (a0_1 + 1)) - 1)) (a0_0.length : Int)).bind fun z3 => (getI a0_0 z2).bind fun e4 => (m_gleemake_Below e4 1073741824).bind fun y5 => (m_gleemake_Below (w64 (y5 + (w64 (z3 * (w64 (7919 + z2)))))) a1).bind fun y6 => some (y6, w64 (a0_1 + 1)))
def m_gleemake_Stream_Range (a0_0 : (List Int)) (a0_1 : Int) (a1 : Int) (a2 : Int) : Option (Int × Int) :=
  ifB (decide (a2 < a1)) (some (a1, a0_1)) ((m_gleemake_Stream_Next a0_0 a0_1 (w64 ((w64 (a2 - a1)) + 1))).bind fun y1 => some (w64 (a1 + y1.1), y1.2))
def m_gleemake_Stream_Flip (a0_0 : (List Int)) (a0_1 : Int) (a1 : Int) : Option (Bool × Int) :=
  (m_gleemake_Stream_Next a0_0 a0_1 a1).bind fun y1 => some (y1.1 == 0, y1.2)
def m_gleemake_Stream_Pick (a0_0 : (List Int)) (a0_1 : Int) (a1 : (List Int)) : Option (Int × Int) :=
  (m_gleemake_Stream_Next a0_0 a0_1 (a1.length : Int)).bind fun y1 => (getI a1 y1.1).bind fun e2 => some (e2, y1.2)
def m_gleemake_Stream_RightBars_1 (a0_0_0 : (List Int)) (a0_0_1 : Int) : Option (TBar × Int) :=
  ((m_gleemake_Stream_Pick a0_0_0 a0_0_1 [1, 2, 3, 4]).bind fun y6 => (m_gleemake_Stream_Pick a0_0_0 y6.2 [4, 4, 2, 8]).bind fun y8 => some (.inl (y8.2, y6.1, y8.1)) : Option ((Int × Int × Int) ⊕ (TBar × Int))).bind fun k4 => Sum.fin k4 fun u2 => some ((TBar.mk u2.2.1 u2.2.2 0 0 false), u2.1)
def m_gleemake_Stream_RightBars_l2 (a0_0 : (List Int)) (y17 : (Int × Int)) (y18 : (Int × Int)) (i19 : Nat) (x20 : Nat) (u22 : (Int × Int × (List TBar))) : Option (Flow (Int × Int × (List TBar)) (Flow (Int × (List TBar)) ((List TBar) × Int))) :=
  (m_gleemake_Stream_RightBars_1 a0_0 u22.2.1).bind fun y27 => (ifB (decide ((i19 : Int) > 0)) ((m_gleemake_Stream_Flip a0_0 y27.2 2).bind fun y32 => some (.inl (y32.1, y32.2))) (some (.inl (false, y27.2))) : Option ((Bool × Int) ⊕ (Flow (Int × Int × (List TBar)) (Flow (Int × (List TBar)) ((List TBar) × Int))))).bind fun k31 => Sum.fin k31 fun u29 => (ifB u29.1 (some (.inl (min y18.1 (w64 (u22.1 + 1))))) (some (.inl u22.1)) : Option (Int ⊕ (Flow (Int × Int × (List TBar)) (Flow (Int × (List TBar)) ((List TBar) × Int))))).bind fun k35 => Sum.fin k35 fun u33 => (ifB ((i19 : Int) == (w64 (y17.1 - 1))) (some (.inl y18.1)) (some (.inl y27.1.Close)) : Option (Int ⊕ (Flow (Int × Int × (List TBar)) (Flow (Int × (List TBar)) ((List TBar) × Int))))).bind fun k38 => Sum.fin k38 fun u36 => (appM 40 u22.2.2 [(TBar.mk y27.1.Beats y27.1.Unit u36 u33 ((i19 : Int) == 0))]).bind fun q40 => some (.nxt (u33, u29.2, q40))
def m_gleemake_Stream_RightBars_l1 (a0_0 : (List Int)) (i3 : Nat) (x4 : Nat) (u7 : (Int × (List TBar))) : Option (Flow (Int × (List TBar)) ((List TBar) × Int)) :=
  (m_gleemake_Stream_Flip a0_0 u7.1 2).bind fun y12 => ifB (!y12.1) ((m_gleemake_Stream_RightBars_1 a0_0 y12.2).bind fun y13 => (appM 40 u7.2 [y13.1]).bind fun q15 => some (.nxt (y13.2, q15))) ((m_gleemake_Stream_Range a0_0 y12.2 1 3).bind fun y17 => (m_gleemake_Stream_Range a0_0 y17.2 2 3).bind fun y18 => (rangeI y17.1).bind fun L43 => (rangeM (m_gleemake_Stream_RightBars_l2 a0_0 y17 y18) 0 L43 (0, y18.2, u7.2)).bind fun f25 => Flow.fin f25 fun u22 => some (.nxt (u22.2.1, u22.2.2)))
def m_gleemake_Stream_RightBars (a0_0 : (List Int)) (a0_1 : Int) : Option ((List TBar) × Int) :=
  (m_gleemake_Stream_Range a0_0 a0_1 1 4).bind fun y2 => (rangeI y2.1).bind fun L45 => (rangeM (m_gleemake_Stream_RightBars_l1 a0_0) 0 L45 (y2.2, [])).bind fun f10 => Flow.fin f10 fun u7 => some (u7.2, u7.1)
def m_gleeref2_divisor_l1  (u1 : (Int × Int)) : Option (Flow (Int × Int) Int) :=
  ifB (u1.2 != 0) ((remM u1.1 u1.2).bind fun z5 => some (.nxt (u1.2, z5))) (some (.brk (u1.1, u1.2)))
def m_gleeref2_divisor (a0 : Int) (a1 : Int) : Option Int :=
  (loopM m_gleeref2_divisor_l1 (a0, a1)).bind fun f4 => Flow.fin f4 fun u1 => some (max u1.1 (w64 (0 - u1.1)))
def m_gleeref2_Lowest (a0 : Int) (a1 : Int) : Option TFraction :=
  (m_gleeref2_divisor a0 a1).bind fun y2 => (quoM a0 y2).bind fun z3 => (quoM a1 y2).bind fun z4 => some (TFraction.mk z3 z4)
def m_gleemake_Stream_Some (a0_0 : (List Int)) (a0_1 : Int) (a1 : (List ByteArray)) : Option (ByteArray × Int) :=
  (m_gleemake_Stream_Next a0_0 a0_1 (a1.length : Int)).bind fun y1 => (getI a1 y1.1).bind fun e2 => some (e2, y1.2)
def m_gleemake_Stream_TonesFor_l2 (a0_0 : (List Int)) (u12 : (Int × Int × (List TTone))) : Option (Flow (Int × Int × (List TTone)) (Flow (Int × (List TTone)) ((List TTone) × Int))) :=
  ifB (decide (u12.1 > 0)) ((m_gleemake_Stream_Pick a0_0 u12.2.1 [24, 48, 48, 64, 96, 192]).bind fun y18 => (m_gleemake_Stream_Pick a0_0 y18.2 [60, 60, 62, 64, 67, 48, (-1)]).bind fun y20 => (m_gleeref2_Lowest (min u12.1 y18.1) 192).bind fun y21 => (ifB (y20.1 != (-1)) ((m_gleemake_Stream_Some a0_0 y20.2 [ByteArray.empty, ByteArray.empty, (ByteArray.mk [97].toArray), (ByteArray.mk [71, 108, 111, 45].toArray), (ByteArray.mk [114, 105, 45].toArray), (ByteArray.mk [195, 169].toArray), (ByteArray.mk [45].toArray)]).bind fun y27 => some (.inl (y27.2, y27.1))) (some (.inl (y20.2, ByteArray.empty))) : Option ((Int × ByteArray) ⊕ (Flow (Int × Int × (List TTone)) (Flow (Int × (List TTone)) ((List TTone) × Int))))).bind fun k25 => Sum.fin k25 fun u23 => (ifB (decide ((w64 ((u12.2.2.length : Int) - 1)) ≥ 0)) ((getI u12.2.2 (w64 ((u12.2.2.length : Int) - 1))).bind fun e31 => ifB (e31.Note == y20.1) (ifB (y20.1 != (-1)) ((m_gleemake_Stream_Flip a0_0 u23.1 2).bind fun y32 => some (.inl (y32.1, y32.2))) (some (.inl (false, u23.1)))) (some (.inl (false, u23.1)))) (some (.inl (false, u23.1))) : Option ((Bool × Int) ⊕ (Flow (Int × Int × (List TTone)) (Flow (Int × (List TTone)) ((List TTone) × Int))))).bind fun k30 => Sum.fin k30 fun u28 => (ifB u28.1 ((getI u12.2.2 (w64 ((u12.2.2.length : Int) - 1))).bind fun e37 => some (.inl (ByteArray.empty, (u12.2.2.set ((w64 ((u12.2.2.length : Int) - 1)).toNat) (TTone.mk e37.Note e37.Long e37.Text true))))) (some (.inl (u23.2, u12.2.2))) : Option ((ByteArray × (List TTone)) ⊕ (Flow (Int × Int × (List TTone)) (Flow (Int × (List TTone)) ((List TTone) × Int))))).bind fun k36 => Sum.fin k36 fun u33 => (appM 48 u33.2 [(TTone.mk y20.1 y21 u33.1 false)]).bind fun q39 => some (.nxt (w64 (u12.1 - (min u12.1 y18.1)), u28.2, q39))) (some (.brk (u12.1, u12.2.1, u12.2.2)))
def m_gleemake_Stream_TonesFor_l1 (a0_0 : (List Int)) (i1 : Nat) (x2 : TBar) (u5 : (Int × (List TTone))) : Option (Flow (Int × (List TTone)) ((List TTone) × Int)) :=
  (quoM (w64 ((max 1 (min x2.Beats 16)) * 192)) (max 1 (min x2.Unit 16))).bind fun z11 => (loopM (m_gleemake_Stream_TonesFor_l2 a0_0) (z11, u5.1, u5.2)).bind fun f15 => Flow.fin f15 fun u12 => some (.nxt (u12.2.1, u12.2.2))
def m_gleemake_Stream_TonesFor (a0_0 : (List Int)) (a0_1 : Int) (a1 : (List TBar)) : Option ((List TTone) × Int) :=
  (rangeM (m_gleemake_Stream_TonesFor_l1 a0_0) 0 a1 (a0_1, [])).bind fun f8 => Flow.fin f8 fun u5 => some (u5.2, u5.1)
def m_kit_Outside (a0 : Int) (a1 : Int) (a2 : Int) : Option Bool :=
  ifB (decide (a0 < a1)) (some true) (some (decide (a0 > a2)))
def m_slices_Index_int_int_l1 (a1 : Int) (i1 : Nat) (x2 : Int) (u4 : Unit) : Option (Flow Unit Int) :=
  ifB (a1 == x2) (some (.ret (i1 : Int))) (some (.nxt ()))
def m_slices_Index_int_int (a0 : (List Int)) (a1 : Int) : Option Int :=
  (rangeM (m_slices_Index_int_int_l1 a1) 0 a0 ()).bind fun f7 => Flow.fin f7 fun u4 => some (-1)
def m_slices_Contains_int_int (a0 : (List Int)) (a1 : Int) : Option Bool :=
  (m_slices_Index_int_int a0 a1).bind fun y1 => some (decide (y1 ≥ 0))
def m_piece_isUnit (a0 : Int) : Option Bool :=
  (m_slices_Contains_int_int [1, 2, 4, 8, 16] a0).bind fun y2 => some y2
def m_piece_barFault (a0 : TBar) : Option Int :=
  ((m_kit_Outside a0.Beats 1 16).bind fun y5 => ifB y5 (some (.inl true)) ((m_piece_isUnit a0.Unit).bind fun y6 => ifB (!y6) (some (.inl true)) (ifB (a0.Close != 0) ((m_kit_Outside a0.Close 2 9).bind fun y7 => ifB y7 (some (.inl true)) ((m_kit_Outside a0.Ending 0 9).bind fun y8 => some (.inl y8))) ((m_kit_Outside a0.Ending 0 9).bind fun y9 => some (.inl y9)))) : Option (Bool ⊕ Int)).bind fun k4 => Sum.fin k4 fun u2 => ifB u2 (some 1) (some 0)
def m_piece_rulesFault_l1 (a0 : (List TBar)) (i1 : Nat) (x2 : TBar) (u4 : Bool) : Option (Flow Bool Int) :=
  (m_piece_barFault x2).bind fun y9 => ifB (y9 != 0) (some (.ret y9)) ((ifB x2.Open (some (.inl u4)) (some (.inl false)) : Option (Bool ⊕ (Flow Bool Int))).bind fun k12 => Sum.fin k12 fun u10 => ifB u10 (some (.ret 16)) ((ifB (!x2.Open) (ifB (!u4) (ifB (x2.Close != 0) (some (.inl true)) (some (.inl (x2.Ending != 0)))) (some (.inl false))) (some (.inl false)) : Option (Bool ⊕ (Flow Bool Int))).bind fun k15 => Sum.fin k15 fun u13 => ifB u13 (some (.ret 16)) (ifB u4 ((getI a0 (w64 ((i1 : Int) - 1))).bind fun e16 => ifB (decide (x2.Ending < e16.Ending)) (some (.ret 16)) (ifB u4 (some (.nxt (x2.Close == 0))) (ifB x2.Open (some (.nxt (x2.Close == 0))) (some (.nxt false))))) (ifB u4 (some (.nxt (x2.Close == 0))) (ifB x2.Open (some (.nxt (x2.Close == 0))) (some (.nxt false)))))))
def m_piece_rulesFault (a0 : (List TBar)) : Option Int :=
  (rangeM (m_piece_rulesFault_l1 a0) 0 a0 false).bind fun f7 => Flow.fin f7 fun u4 => some 0
def m_piece_repeats_l3 (x22 : Tpiece_repeat) (i30 : Nat) (x31 : TBar) (u33 : Unit) : Option (Flow Unit (Flow Unit ((List Tpiece_repeat) × Bool))) :=
  (ifB (decide (x22.times > 1)) (some (.inl (decide (x31.Ending > x22.times)))) (some (.inl false)) : Option (Bool ⊕ (Flow Unit (Flow Unit ((List Tpiece_repeat) × Bool))))).bind fun k40 => Sum.fin k40 fun u38 => ifB u38 (some (.ret (.ret ([], false)))) (some (.nxt ()))
def m_piece_repeats_l2 (a0 : (List TBar)) (i21 : Nat) (x22 : Tpiece_repeat) (u24 : Unit) : Option (Flow Unit ((List Tpiece_repeat) × Bool)) :=
  (sliceI a0 x22.from_ x22.to_).bind fun q29 => (rangeM (m_piece_repeats_l3 x22) 0 q29 ()).bind fun f36 => Flow.fin f36 fun u33 => some (.nxt ())
def m_piece_repeats_l1  (i1 : Nat) (x2 : TBar) (u5 : (Int × (List Tpiece_repeat))) : Option (Flow (Int × (List Tpiece_repeat)) ((List Tpiece_repeat) × Bool)) :=
  (ifB x2.Open (some (.inl (i1 : Int))) (some (.inl u5.1)) : Option (Int ⊕ (Flow (Int × (List Tpiece_repeat)) ((List Tpiece_repeat) × Bool)))).bind fun k13 => Sum.fin k13 fun u11 => ifB (decide (u11 < 0)) ((appM 24 u5.2 [(Tpiece_repeat.mk (i1 : Int) (w64 ((i1 : Int) + 1)) 1)]).bind fun q15 => some (.nxt (u11, q15))) (ifB (decide (x2.Close > 0)) ((appM 24 u5.2 [(Tpiece_repeat.mk u11 (w64 ((i1 : Int) + 1)) x2.Close)]).bind fun q18 => some (.nxt ((-1), q18))) (some (.nxt (u11, u5.2))))
def m_piece_repeats (a0 : (List TBar)) : Option ((List Tpiece_repeat) × Bool) :=
  (rangeM m_piece_repeats_l1 0 a0 ((-1), [])).bind fun f8 => Flow.fin f8 fun u5 => (rangeM (m_piece_repeats_l2 a0) 0 u5.2 ()).bind fun f27 => Flow.fin f27 fun u24 => some (u5.2, decide (u5.1 < 0))
def m_piece_order_l3 (a0 : (List TBar)) (a2 : Int) (x2 : Tpiece_repeat) (u11 : (Int × (List Int))) (u16 : (Int × (List Int))) : Option (Flow (Int × (List Int)) (Flow (Int × (List Int)) (Flow (List Int) (List Int)))) :=
  (ifB (decide (u16.1 < x2.to_)) (some (.inl (decide ((u16.2.length : Int) ≤ a2)))) (some (.inl false)) : Option (Bool ⊕ (Flow (Int × (List Int)) (Flow (Int × (List Int)) (Flow (List Int) (List Int)))))).bind fun k23 => Sum.fin k23 fun u21 => ifB u21 (((getI a0 u16.1).bind fun e27 => ifB (e27.Ending == 0) (some (.inl true)) ((getI a0 u16.1).bind fun e28 => some (.inl (e28.Ending == u11.1))) : Option (Bool ⊕ (Flow (Int × (List Int)) (Flow (Int × (List Int)) (Flow (List Int) (List Int)))))).bind fun k26 => Sum.fin k26 fun u24 => ifB u24 ((appM 8 u16.2 [u16.1]).bind fun q30 => some (.nxt (w64 (u16.1 + 1), q30))) (some (.nxt (w64 (u16.1 + 1), u16.2)))) (some (.brk (u16.1, u16.2)))
def m_piece_order_l2 (a0 : (List TBar)) (a2 : Int) (x2 : Tpiece_repeat) (u11 : (Int × (List Int))) : Option (Flow (Int × (List Int)) (Flow (List Int) (List Int))) :=
  ifB (decide (u11.1 ≤ x2.times)) ((loopM (m_piece_order_l3 a0 a2 x2 u11) (x2.from_, u11.2)).bind fun f19 => Flow.fin f19 fun u16 => some (.nxt (w64 (u11.1 + 1), u16.2))) (some (.brk (u11.1, u11.2)))
def m_piece_order_l1 (a0 : (List TBar)) (a2 : Int) (i1 : Nat) (x2 : Tpiece_repeat) (u5 : (List Int)) : Option (Flow (List Int) (List Int)) :=
  (loopM (m_piece_order_l2 a0 a2 x2) (1, u5)).bind fun f14 => Flow.fin f14 fun u11 => some (.nxt u11.2)
def m_piece_order (a0 : (List TBar)) (a1 : (List Tpiece_repeat)) (a2 : Int) : Option (List Int) :=
  (rangeM (m_piece_order_l1 a0 a2) 0 a1 []).bind fun f8 => Flow.fin f8 fun u5 => some u5
def m_piece_CheckBars (a0 : (List TBar)) : Option Int :=
  ifB ((a0.length : Int) == 0) (some 8) (ifB (decide ((a0.length : Int) > 300)) (some 2) ((m_piece_rulesFault a0).bind fun y1 => ifB (y1 != 0) (some y1) ((m_piece_repeats a0).bind fun y2 => ifB (!y2.2) (some 16) ((m_piece_order a0 y2.1 2000).bind fun y4 => ifB (decide ((y4.length : Int) > 2000)) (some 2) (some 0)))))
def m_piece_isLowest_l1  (u2 : (Int × Int)) : Option (Flow (Int × Int) Bool) :=
  ifB (u2.2 != 0) ((remM u2.1 u2.2).bind fun z6 => some (.nxt (u2.2, z6))) (some (.brk (u2.1, u2.2)))
def m_piece_isLowest (a0 : TFraction) : Option Bool :=
  (loopM m_piece_isLowest_l1 (a0.Num, a0.Den)).bind fun f5 => Flow.fin f5 fun u2 => ifB (decide (a0.Den > 0)) (ifB (u2.1 == 1) (some true) (some (u2.1 == (-1)))) (some false)
def m_piece_isText_l1 (a0 : ByteArray) (i5 : Nat) (x6 : Nat) (u8 : Unit) : Option (Flow Unit Bool) :=
  ((strI a0 (i5 : Int)).bind fun c15 => ifB (decide (c15 < 33)) (some (.inl true)) ((strI a0 (i5 : Int)).bind fun c16 => ifB (c16 == 127) (some (.inl true)) ((strI a0 (i5 : Int)).bind fun c17 => some (.inl (c17 == 124)))) : Option (Bool ⊕ (Flow Unit Bool))).bind fun k14 => Sum.fin k14 fun u12 => ifB u12 (some (.ret false)) (some (.nxt ()))
def m_piece_isText (a0 : ByteArray) : Option Bool :=
  (ifB (decide ((a0.size : Int) > 20)) (some (.inl true)) ((m_utf8_ValidString a0).bind fun y4 => some (.inl (!y4))) : Option (Bool ⊕ Bool)).bind fun k3 => Sum.fin k3 fun u1 => ifB u1 (some false) ((rangeI (a0.size : Int)).bind fun L18 => (rangeM (m_piece_isText_l1 a0) 0 L18 ()).bind fun f11 => Flow.fin f11 fun u8 => some true)
def m_piece_toneFault (a0 : TTone) : Option Int :=
  (ifB (a0.Note != (-1)) ((m_kit_Outside a0.Note 0 127).bind fun y5 => some (.inl y5)) (some (.inl false)) : Option (Bool ⊕ Int)).bind fun k4 => Sum.fin k4 fun u2 => ifB u2 (some 1) ((ifB (decide (a0.Long.Num < 1)) (some (.inl true)) ((m_piece_isLowest a0.Long).bind fun y9 => some (.inl (!y9))) : Option (Bool ⊕ Int)).bind fun k8 => Sum.fin k8 fun u6 => ifB u6 (some 3) (((remM 192 a0.Long.Den).bind fun z13 => ifB (z13 != 0) (some (.inl true)) (some (.inl (decide (a0.Long.Num > (w64 (16 * a0.Long.Den)))))) : Option (Bool ⊕ Int)).bind fun k12 => Sum.fin k12 fun u10 => ifB u10 (some 1) ((m_piece_isText a0.Text).bind fun y14 => ifB (!y14) (some 3) ((ifB (a0.Note == (-1)) (ifB a0.Tied (some (.inl true)) (some (.inl (!(a0.Text.toList == ByteArray.empty.toList))))) (some (.inl false)) : Option (Bool ⊕ Int)).bind fun k17 => Sum.fin k17 fun u15 => ifB u15 (some 16) (some 0)))))
def m_piece_long (a0 : TBar) : Option Int :=
  (quoM 192 a0.Unit).bind fun z2 => some (w64 (a0.Beats * z2))
def m_piece_units (a0 : TFraction) : Option Int :=
  (quoM 192 a0.Den).bind fun z2 => some (w64 (a0.Num * z2))
def m_piece_carries (a0 : TTone) (a1 : TTone) : Option Bool :=
  ifB (a1.Note == a0.Note) (some (a1.Text.toList == ByteArray.empty.toList)) (some false)
def m_piece_checkTones_l2 (a1 : (List TTone)) (a2 : Bool) (i20 : Nat) (x21 : TTone) (u23 : Unit) : Option (Flow Unit Int) :=
  ifB x21.Tied (ifB ((i20 : Int) == (w64 ((a1.length : Int) - 1))) (ifB (!a2) (some (.ret 16)) (ifB (decide ((i20 : Int) < (w64 ((a1.length : Int) - 1)))) ((getI a1 (w64 ((i20 : Int) + 1))).bind fun e28 => (m_piece_carries x21 e28).bind fun y29 => ifB (!y29) (some (.ret 16)) (some (.nxt ()))) (some (.nxt ())))) (ifB (decide ((i20 : Int) < (w64 ((a1.length : Int) - 1)))) ((getI a1 (w64 ((i20 : Int) + 1))).bind fun e30 => (m_piece_carries x21 e30).bind fun y31 => ifB (!y31) (some (.ret 16)) (some (.nxt ()))) (some (.nxt ())))) (some (.nxt ()))
def m_piece_checkTones_l1 (a0 : (List TBar)) (i1 : Nat) (x2 : TTone) (u4 : (Int × Int)) : Option (Flow (Int × Int) Int) :=
  (m_piece_toneFault x2).bind fun y9 => ifB (y9 != 0) (some (.ret y9)) ((ifB (u4.2 == 0) (ifB (u4.1 == (a0.length : Int)) (some (.inr (.ret 16))) ((getI a0 u4.1).bind fun e13 => (m_piece_long e13).bind fun y14 => some (.inl (w64 (u4.1 + 1), y14)))) (some (.inl (u4.1, u4.2))) : Option ((Int × Int) ⊕ (Flow (Int × Int) Int))).bind fun k12 => Sum.fin k12 fun u10 => (m_piece_units x2.Long).bind fun y15 => ifB (decide (y15 > u10.2)) (some (.ret 16)) ((m_piece_units x2.Long).bind fun y16 => some (.nxt (u10.1, w64 (u10.2 - y16)))))
def m_piece_checkTones (a0 : (List TBar)) (a1 : (List TTone)) (a2 : Bool) : Option Int :=
  ifB (decide ((a1.length : Int) > 2000)) (some 2) ((rangeM (m_piece_checkTones_l1 a0) 0 a1 (0, 0)).bind fun f7 => Flow.fin f7 fun u4 => (ifB (decide (u4.2 > 0)) (some (.inl true)) (some (.inl (decide (u4.1 < (a0.length : Int))))) : Option (Bool ⊕ Int)).bind fun k19 => Sum.fin k19 fun u17 => ifB u17 (some 3) ((rangeM (m_piece_checkTones_l2 a1 a2) 0 a1 ()).bind fun f26 => Flow.fin f26 fun u23 => some 0))
def m_piece_CheckTones (a0 : (List TBar)) (a1 : (List TTone)) : Option Int :=
  (m_piece_CheckBars a0).bind fun y1 => ifB (y1 != 0) (some y1) ((m_piece_checkTones a0 a1 false).bind fun y2 => some y2)
def m_slices_Clone_api_Tone_api_Tone (a0 : (List TTone)) : Option (List TTone) :=
  (appM 48 ([] : List TTone) a0).bind fun q3 => some q3
def m_piece_inBars_l2 (u5 : ((List TTone) × (List (List TTone)))) (u13 : (Int × Int)) : Option (Flow (Int × Int) (Flow ((List TTone) × (List (List TTone))) (List (List TTone)))) :=
  ifB (decide (u13.2 > 0)) ((getI u5.1 u13.1).bind fun e17 => (m_piece_units e17.Long).bind fun y18 => some (.nxt (w64 (u13.1 + 1), w64 (u13.2 - y18)))) (some (.brk (u13.1, u13.2)))
def m_piece_inBars_l1  (i1 : Nat) (x2 : TBar) (u5 : ((List TTone) × (List (List TTone)))) : Option (Flow ((List TTone) × (List (List TTone))) (List (List TTone))) :=
  (m_piece_long x2).bind fun y12 => (loopM (m_piece_inBars_l2 u5) (0, y12)).bind fun f16 => Flow.fin f16 fun u13 => (sliceI u5.1 0 u13.1).bind fun q19 => (m_slices_Clone_api_Tone_api_Tone q19).bind fun y20 => (appM 24 u5.2 [y20]).bind fun q23 => (sliceI u5.1 u13.1 (u5.1.length : Int)).bind fun q26 => some (.nxt (q26, q23))
def m_piece_inBars (a0 : (List TBar)) (a1 : (List TTone)) : Option (List (List TTone)) :=
  (rangeM m_piece_inBars_l1 0 a0 (a1, [])).bind fun f8 => Flow.fin f8 fun u5 => some u5.2
def m_piece_toneText (a0 : TTone) : Option ByteArray :=
  (ifB (a0.Note != (-1)) ((m_strconv_Itoa a0.Note).bind fun y5 => some (.inl y5)) (some (.inl (ByteArray.mk [45].toArray))) : Option (ByteArray ⊕ ByteArray)).bind fun k4 => Sum.fin k4 fun u2 => (m_strconv_Itoa a0.Long.Num).bind fun y6 => (catM (ByteArray.mk [58].toArray) y6).bind fun c7 => (catM c7 (ByteArray.mk [47].toArray)).bind fun c8 => (m_strconv_Itoa a0.Long.Den).bind fun y9 => (catM c8 y9).bind fun c10 => (catM u2 c10).bind fun c11 => (ifB a0.Tied ((catM c11 (ByteArray.mk [126].toArray)).bind fun c15 => some (.inl c15)) (some (.inl c11)) : Option (ByteArray ⊕ ByteArray)).bind fun k14 => Sum.fin k14 fun u12 => ifB (!(a0.Text.toList == ByteArray.empty.toList)) ((catM (ByteArray.mk [58].toArray) a0.Text).bind fun c16 => (catM u12 c16).bind fun c17 => some c17) (some u12)
def m_kit_Join (a0 : (List ByteArray)) : Option ByteArray :=
  (m_strings_Join a0 (ByteArray.mk [32].toArray)).bind fun y1 => (catM y1 (ByteArray.mk [10].toArray)).bind fun c2 => some c2
def m_piece_Text_l2  (i13 : Nat) (x14 : TTone) (u17 : (List ByteArray)) : Option (Flow (List ByteArray) (Flow ByteArray (ByteArray × Int))) :=
  (m_piece_toneText x14).bind fun y23 => (appM 16 u17 [y23]).bind fun q25 => some (.nxt q25)
def m_piece_Text_l1  (i6 : Nat) (x7 : (List TTone)) (u9 : ByteArray) : Option (Flow ByteArray (ByteArray × Int)) :=
  (rangeM m_piece_Text_l2 0 x7 []).bind fun f20 => Flow.fin f20 fun u17 => (m_kit_Join u17).bind fun y28 => (m_bWriteString u9 y28).bind fun y29 => some (.nxt y29)
def m_piece_Text (a0 : (List TBar)) (a1 : (List TTone)) : Option (ByteArray × Int) :=
  (m_piece_CheckTones a0 a1).bind fun y1 => ifB (y1 != 0) (some (ByteArray.empty, y1)) ((m_piece_inBars a0 a1).bind fun y3 => (rangeM m_piece_Text_l1 0 y3 ByteArray.empty).bind fun f12 => Flow.fin f12 fun u9 => ifB (decide ((u9.size : Int) > 200000)) (some (ByteArray.empty, 2)) (some (u9, 0)))
def m_stringslite_HasSuffix (a0 : ByteArray) (a1 : ByteArray) : Option Bool :=
  ifB (decide ((a0.size : Int) ≥ (a1.size : Int))) ((strS a0 (w64 ((a0.size : Int) - (a1.size : Int))) (a0.size : Int)).bind fun c1 => some (c1.toList == a1.toList)) (some false)
def m_stringslite_CutSuffix (a0 : ByteArray) (a1 : ByteArray) : Option (ByteArray × Bool) :=
  (m_stringslite_HasSuffix a0 a1).bind fun y1 => ifB (!y1) (some (a0, false)) ((strS a0 0 (w64 ((a0.size : Int) - (a1.size : Int)))).bind fun c2 => some (c2, true))
def m_strings_CutSuffix (a0 : ByteArray) (a1 : ByteArray) : Option (ByteArray × Bool) :=
  (m_stringslite_CutSuffix a0 a1).bind fun y1 => some (y1.1, y1.2)
def m_kit_Lines (a0 : ByteArray) : Option ((List ByteArray) × Bool) :=
  ifB (a0.toList == ByteArray.empty.toList) (some ([], true)) ((m_strings_CutSuffix a0 (ByteArray.mk [10].toArray)).bind fun y2 => (m_strings_Split y2.1 (ByteArray.mk [10].toArray)).bind fun y3 => some (y3, y2.2))
def m_kit_Words_l1  (i3 : Nat) (x4 : ByteArray) (u6 : Unit) : Option (Flow Unit ((List ByteArray) × Bool)) :=
  ifB (x4.toList == ByteArray.empty.toList) (some (.ret ([], false))) (some (.nxt ()))
def m_kit_Words (a0 : ByteArray) : Option ((List ByteArray) × Bool) :=
  (m_strings_Split a0 (ByteArray.mk [32].toArray)).bind fun y1 => (rangeM m_kit_Words_l1 0 y1 ()).bind fun f9 => Flow.fin f9 fun u6 => some (y1, true)
def m_stringslite_Index (a0 : ByteArray) (a1 : ByteArray) : Option Int :=
  (ifB ((a1.size : Int) == 0) (some (.inl true)) (some (.inl (a1.toList == a0.toList))) : Option (Bool ⊕ Int)).bind fun k3 => Sum.fin k3 fun u1 => ifB u1 (some 0) (ifB ((a1.size : Int) == 1) ((strI a1 0).bind fun c4 => (m_stringslite_IndexByte a0 c4).bind fun y5 => some y5) (ifB (decide ((a1.size : Int) ≥ (a0.size : Int))) (some (-1)) (none)))
def m_stringslite_Cut (a0 : ByteArray) (a1 : ByteArray) : Option (ByteArray × ByteArray × Bool) :=
  (m_stringslite_Index a0 a1).bind fun y1 => ifB (decide (y1 ≥ 0)) ((strS a0 0 y1).bind fun c2 => (strS a0 (w64 (y1 + (a1.size : Int))) (a0.size : Int)).bind fun c3 => some (c2, c3, true)) (some (a0, ByteArray.empty, false))
def m_strings_Cut (a0 : ByteArray) (a1 : ByteArray) : Option (ByteArray × ByteArray × Bool) :=
  (m_stringslite_Cut a0 a1).bind fun y1 => some (y1.1, y1.2.1, y1.2.2)
def m_stringslite_HasPrefix (a0 : ByteArray) (a1 : ByteArray) : Option Bool :=
  ifB (decide ((a0.size : Int) ≥ (a1.size : Int))) ((strS a0 0 (a1.size : Int)).bind fun c1 => some (c1.toList == a1.toList)) (some false)
def m_stringslite_CutPrefix (a0 : ByteArray) (a1 : ByteArray) : Option (ByteArray × Bool) :=
  (m_stringslite_HasPrefix a0 a1).bind fun y1 => ifB (!y1) (some (a0, false)) ((strS a0 (a1.size : Int) (a0.size : Int)).bind fun c2 => some (c2, true))
def m_strings_CutPrefix (a0 : ByteArray) (a1 : ByteArray) : Option (ByteArray × Bool) :=
  (m_stringslite_CutPrefix a0 a1).bind fun y1 => some (y1.1, y1.2)
def m_kit_Number (a0 : ByteArray) (a1 : Int) : Option (Int × Bool) :=
  (m_strings_CutPrefix a0 (ByteArray.mk [45].toArray)).bind fun y1 => (ifB (y1.1.toList == ByteArray.empty.toList) (some (.inl true)) (ifB (decide ((y1.1.size : Int) > a1)) (some (.inl true)) ((m_strings_Trim y1.1 (ByteArray.mk [48, 49, 50, 51, 52, 53, 54, 55, 56, 57].toArray)).bind fun y5 => ifB (!(y5.toList == ByteArray.empty.toList)) (some (.inl true)) ((strI y1.1 0).bind fun c6 => ifB (c6 == 48) (ifB (decide ((y1.1.size : Int) > 1)) (some (.inl true)) (some (.inl y1.2))) (some (.inl false))))) : Option (Bool ⊕ (Int × Bool))).bind fun k4 => Sum.fin k4 fun u2 => ifB u2 (some (0, false)) ((m_strconv_Atoi y1.1).bind fun y7 => ifB y1.2 (some (w64 (0 - y7.1), true)) (some (y7.1, true)))
def m_piece_natural (a0 : ByteArray) : Option (Int × Bool) :=
  (m_kit_Number a0 15).bind fun y1 => ifB y1.2 (some (y1.1, decide (y1.1 ≥ 0))) (some (y1.1, false))
def m_piece_readTone (a0 : ByteArray) : Option (TTone × Bool) :=
  (m_strings_Cut a0 (ByteArray.mk [58].toArray)).bind fun y2 => (m_strings_Cut y2.2.1 (ByteArray.mk [58].toArray)).bind fun y3 => (ifB (!y2.2.2) (some (.inl true)) (ifB y3.2.2 (some (.inl (y3.2.1.toList == ByteArray.empty.toList))) (some (.inl false))) : Option (Bool ⊕ (TTone × Bool))).bind fun k6 => Sum.fin k6 fun u4 => ifB u4 (some ((TTone.mk 0 (TFraction.mk 0 0) ByteArray.empty false), false)) ((m_strings_CutSuffix y3.1 (ByteArray.mk [126].toArray)).bind fun y7 => (m_strings_Cut y7.1 (ByteArray.mk [47].toArray)).bind fun y8 => (m_piece_natural y8.1).bind fun y9 => (m_piece_natural y8.2.1).bind fun y10 => (ifB (!(y2.1.toList == (ByteArray.mk [45].toArray).toList)) ((m_piece_natural y2.1).bind fun y15 => some (.inl (y15.2, y15.1))) (some (.inl (true, (-1)))) : Option ((Bool × Int) ⊕ (TTone × Bool))).bind fun k14 => Sum.fin k14 fun u12 => ifB y8.2.2 (ifB y9.2 (ifB y10.2 (some ((TTone.mk u12.2 (TFraction.mk y9.1 y10.1) y3.2.1 y7.2), u12.1)) (some ((TTone.mk u12.2 (TFraction.mk y9.1 y10.1) y3.2.1 y7.2), false))) (some ((TTone.mk u12.2 (TFraction.mk y9.1 y10.1) y3.2.1 y7.2), false))) (some ((TTone.mk u12.2 (TFraction.mk y9.1 y10.1) y3.2.1 y7.2), false)))
def m_piece_Read_l2  (i21 : Nat) (x22 : ByteArray) (u24 : (Bool × (List TTone))) : Option (Flow (Bool × (List TTone)) (Flow ((List TTone) × (List Int)) ((List TTone) × Int × Int))) :=
  (m_piece_readTone x22).bind fun y29 => (ifB u24.1 (some (.inl y29.2)) (some (.inl false)) : Option (Bool ⊕ (Flow (Bool × (List TTone)) (Flow ((List TTone) × (List Int)) ((List TTone) × Int × Int))))).bind fun k33 => Sum.fin k33 fun u31 => (appM 48 u24.2 [y29.1]).bind fun q35 => some (.nxt (u31, q35))
def m_piece_Read_l3 (u13 : ((List TTone) × (List Int))) (i56 : Nat) (x57 : (List TTone)) (u59 : Unit) : Option (Flow Unit ((List TTone) × Int × Int)) :=
  (getI u13.2 (i56 : Int)).bind fun e63 => ifB ((x57.length : Int) != e63) (some (.ret ([], 0, 3))) (some (.nxt ()))
def m_piece_Read_l1 (y6 : ((List ByteArray) × Bool)) (i8 : Nat) (x9 : ByteArray) (u13 : ((List TTone) × (List Int))) : Option (Flow ((List TTone) × (List Int)) ((List TTone) × Int × Int)) :=
  (m_kit_Words x9).bind fun y19 => (rangeM m_piece_Read_l2 0 y19.1 (y19.2, u13.1)).bind fun f27 => Flow.fin f27 fun u24 => (ifB (!u24.1) (some (.inl true)) (ifB (!y6.2) (some (.inl ((i8 : Int) == (w64 ((y6.1.length : Int) - 1))))) (some (.inl false))) : Option (Bool ⊕ (Flow ((List TTone) × (List Int)) ((List TTone) × Int × Int)))).bind fun k40 => Sum.fin k40 fun u38 => ifB u38 (some (.ret ([], (i8 : Int), 9))) ((appM 8 u13.2 [(y19.1.length : Int)]).bind fun q44 => some (.nxt (u24.2, q44)))
def m_piece_Read (a0 : (List TBar)) (a1 : ByteArray) : Option ((List TTone) × Int × Int) :=
  (m_piece_CheckBars a0).bind fun y1 => ifB (y1 != 0) (some ([], 0, y1)) (ifB (decide ((a1.size : Int) > 200000)) (some ([], 0, 2)) ((m_kit_Lines a1).bind fun y6 => (rangeM (m_piece_Read_l1 y6) 0 y6.1 ([], [])).bind fun f16 => Flow.fin f16 fun u13 => ifB ((y6.1.length : Int) != (a0.length : Int)) (some ([], 0, 3)) ((m_piece_checkTones a0 u13.1 false).bind fun y50 => ifB (y50 != 0) (some ([], 0, y50)) ((m_piece_inBars a0 u13.1).bind fun y53 => (rangeM (m_piece_Read_l3 u13) 0 y53 ()).bind fun f62 => Flow.fin f62 fun u59 => some (u13.1, 0, 0)))))
def m_gleekeep2_errs_l1  (i1 : Nat) (x2 : Int) (u4 : Unit) : Option (Flow Unit Int) :=
  ifB (x2 != 0) (some (.ret x2)) (some (.nxt ()))
def m_gleekeep2_errs (a0 : (List Int)) : Option Int :=
  (rangeM m_gleekeep2_errs_l1 0 a0 ()).bind fun f7 => Flow.fin f7 fun u4 => some 0
def m_slices_Equal_api_Tone_api_Tone_l1 (a1 : (List TTone)) (i1 : Nat) (x2 : TTone) (u4 : Unit) : Option (Flow Unit Bool) :=
  (getI a1 (i1 : Int)).bind fun e8 => ifB (!(decide (x2 = e8))) (some (.ret false)) (some (.nxt ()))
def m_slices_Equal_api_Tone_api_Tone (a0 : (List TTone)) (a1 : (List TTone)) : Option Bool :=
  ifB ((a0.length : Int) != (a1.length : Int)) (some false) ((rangeM (m_slices_Equal_api_Tone_api_Tone_l1 a1) 0 a0 ()).bind fun f7 => Flow.fin f7 fun u4 => some true)
def m_gleeref2_in (a0 : Int) (a1 : Int) (a2 : Int) : Option Bool :=
  ifB (decide (a1 ≤ a0)) (some (decide (a0 ≤ a2))) (some false)
def m_gleeref2_OrderOf_l4 (a0 : (List TBar)) (u11 : Int) (u16 : (Int × (List Int))) (u22 : (Int × (List Int))) : Option (Flow (Int × (List Int)) (Flow (Int × (List Int)) (Flow (Int × (List Int)) (List Int)))) :=
  ifB (decide (u22.1 ≤ u11)) (((getI a0 u22.1).bind fun e30 => ifB (e30.Ending == 0) (some (.inl true)) ((getI a0 u22.1).bind fun e31 => some (.inl (e31.Ending == u16.1))) : Option (Bool ⊕ (Flow (Int × (List Int)) (Flow (Int × (List Int)) (Flow (Int × (List Int)) (List Int)))))).bind fun k29 => Sum.fin k29 fun u27 => ifB u27 ((appM 8 u22.2 [u22.1]).bind fun q33 => some (.nxt (w64 (u22.1 + 1), q33))) (some (.nxt (w64 (u22.1 + 1), u22.2)))) (some (.brk (u22.1, u22.2)))
def m_gleeref2_OrderOf_l3 (a0 : (List TBar)) (u11 : Int) (u2 : (Int × (List Int))) (u16 : (Int × (List Int))) : Option (Flow (Int × (List Int)) (Flow (Int × (List Int)) (List Int))) :=
  (getI a0 u11).bind fun e21 => ifB (decide (u16.1 ≤ e21.Close)) ((loopM (m_gleeref2_OrderOf_l4 a0 u11 u16) (u2.1, u16.2)).bind fun f25 => Flow.fin f25 fun u22 => some (.nxt (w64 (u16.1 + 1), u22.2))) (some (.brk (u16.1, u16.2)))
def m_gleeref2_OrderOf_l2 (a0 : (List TBar)) (u11 : Int) : Option (Flow Int (Flow (Int × (List Int)) (List Int))) :=
  (getI a0 u11).bind fun e15 => ifB (e15.Close == 0) (some (.nxt (w64 (u11 + 1)))) (some (.brk u11))
def m_gleeref2_OrderOf_l1 (a0 : (List TBar)) (u2 : (Int × (List Int))) : Option (Flow (Int × (List Int)) (List Int)) :=
  ifB (decide (u2.1 < (a0.length : Int))) ((getI a0 u2.1).bind fun e7 => ifB (!e7.Open) ((appM 8 u2.2 [u2.1]).bind fun q9 => some (.nxt (w64 (u2.1 + 1), q9))) ((loopM (m_gleeref2_OrderOf_l2 a0) u2.1).bind fun f14 => Flow.fin f14 fun u11 => (loopM (m_gleeref2_OrderOf_l3 a0 u11 u2) (1, u2.2)).bind fun f19 => Flow.fin f19 fun u16 => some (.nxt (w64 (u11 + 1), u16.2)))) (some (.brk (u2.1, u2.2)))
def m_gleeref2_OrderOf (a0 : (List TBar)) : Option (List Int) :=
  (loopM (m_gleeref2_OrderOf_l1 a0) (0, [])).bind fun f5 => Flow.fin f5 fun u2 => some u2.2
def m_gleeref2_BarsFault_l1  (i1 : Nat) (x2 : TBar) (u4 : (Bool × Int × Int × Bool)) : Option (Flow (Bool × Int × Int × Bool) Int) :=
  ((m_gleeref2_in x2.Beats 1 16).bind fun y12 => ifB (!y12) (some (.inl true)) ((m_slices_Contains_int_int [1, 2, 4, 8, 16] x2.Unit).bind fun y14 => ifB (!y14) (some (.inl true)) (ifB (x2.Close != 0) ((m_gleeref2_in x2.Close 2 9).bind fun y15 => ifB (!y15) (some (.inl true)) ((m_gleeref2_in x2.Ending 0 9).bind fun y16 => some (.inl (!y16)))) ((m_gleeref2_in x2.Ending 0 9).bind fun y17 => some (.inl (!y17))))) : Option (Bool ⊕ (Flow (Bool × Int × Int × Bool) Int))).bind fun k11 => Sum.fin k11 fun u9 => ifB u9 (some (.ret 1)) ((ifB x2.Open (ifB u4.1 (some (.inr (.ret 16))) (some (.inl (true, 0, 0)))) (some (.inl (u4.1, u4.2.1, u4.2.2.1))) : Option ((Bool × Int × Int) ⊕ (Flow (Bool × Int × Int × Bool) Int))).bind fun k20 => Sum.fin k20 fun u18 => (ifB (!u18.1) (ifB (x2.Close != 0) (some (.inl true)) (ifB (x2.Ending != 0) (some (.inl true)) (ifB u18.1 (some (.inl (decide (x2.Ending < u18.2.1)))) (some (.inl false))))) (ifB u18.1 (some (.inl (decide (x2.Ending < u18.2.1)))) (some (.inl false))) : Option (Bool ⊕ (Flow (Bool × Int × Int × Bool) Int))).bind fun k23 => Sum.fin k23 fun u21 => ifB u21 (some (.ret 16)) ((ifB u18.1 (some (.inl (x2.Ending, max u18.2.2 x2.Ending))) (some (.inl (u18.2.1, u18.2.2))) : Option ((Int × Int) ⊕ (Flow (Bool × Int × Int × Bool) Int))).bind fun k26 => Sum.fin k26 fun u24 => ifB (x2.Close != 0) (ifB u4.2.2.2 (some (.nxt (false, u24.1, u24.2, true))) (some (.nxt (false, u24.1, u24.2, decide (u24.2 > x2.Close))))) (some (.nxt (u18.1, u24.1, u24.2, u4.2.2.2)))))
def m_gleeref2_BarsFault (a0 : (List TBar)) : Option Int :=
  ifB ((a0.length : Int) == 0) (some 8) (ifB (decide ((a0.length : Int) > 300)) (some 2) ((rangeM m_gleeref2_BarsFault_l1 0 a0 (false, 0, 0, false)).bind fun f7 => Flow.fin f7 fun u4 => (ifB u4.1 (some (.inl true)) (some (.inl u4.2.2.2)) : Option (Bool ⊕ Int)).bind fun k29 => Sum.fin k29 fun u27 => ifB u27 (some 16) ((m_gleeref2_OrderOf a0).bind fun y30 => ifB (decide ((y30.length : Int) > 2000)) (some 2) (some 0))))
def m_gleeref2_barUnits (a0 : TBar) : Option Int :=
  (quoM (w64 (a0.Beats * 192)) a0.Unit).bind fun z2 => some z2
def m_gleeref2_units (a0 : TFraction) : Option Int :=
  (quoM 192 a0.Den).bind fun z2 => some (w64 (a0.Num * z2))
def m_gleeref2_InBarsOf_l2 (u5 : ((List TTone) × (List (List TTone)))) (u13 : (Int × Int)) : Option (Flow (Int × Int) (Flow ((List TTone) × (List (List TTone))) (List (List TTone)))) :=
  ifB (decide (u13.2 > 0)) ((getI u5.1 u13.1).bind fun e17 => (m_gleeref2_units e17.Long).bind fun y18 => some (.nxt (w64 (u13.1 + 1), w64 (u13.2 - y18)))) (some (.brk (u13.1, u13.2)))
def m_gleeref2_InBarsOf_l1  (i1 : Nat) (x2 : TBar) (u5 : ((List TTone) × (List (List TTone)))) : Option (Flow ((List TTone) × (List (List TTone))) (List (List TTone))) :=
  (m_gleeref2_barUnits x2).bind fun y12 => (loopM (m_gleeref2_InBarsOf_l2 u5) (0, y12)).bind fun f16 => Flow.fin f16 fun u13 => (sliceI u5.1 0 u13.1).bind fun q19 => (m_slices_Clone_api_Tone_api_Tone q19).bind fun y20 => (appM 24 u5.2 [y20]).bind fun q23 => (sliceI u5.1 u13.1 (u5.1.length : Int)).bind fun q26 => some (.nxt (q26, q23))
def m_gleeref2_InBarsOf (a0 : (List TBar)) (a1 : (List TTone)) : Option (List (List TTone)) :=
  (rangeM m_gleeref2_InBarsOf_l1 0 a0 (a1, [])).bind fun f8 => Flow.fin f8 fun u5 => some u5.2
def m_gleeref2_toneText (a0 : TTone) : Option ByteArray :=
  (m_strconv_Itoa a0.Note).bind fun y2 => (ifB (a0.Note == (-1)) (some (.inl (ByteArray.mk [45].toArray))) (some (.inl y2)) : Option (ByteArray ⊕ ByteArray)).bind fun k5 => Sum.fin k5 fun u3 => (m_strconv_Itoa a0.Long.Num).bind fun y6 => (catM (ByteArray.mk [58].toArray) y6).bind fun c7 => (catM c7 (ByteArray.mk [47].toArray)).bind fun c8 => (m_strconv_Itoa a0.Long.Den).bind fun y9 => (catM c8 y9).bind fun c10 => (catM u3 c10).bind fun c11 => (ifB a0.Tied ((catM c11 (ByteArray.mk [126].toArray)).bind fun c15 => some (.inl c15)) (some (.inl c11)) : Option (ByteArray ⊕ ByteArray)).bind fun k14 => Sum.fin k14 fun u12 => ifB (!(a0.Text.toList == ByteArray.empty.toList)) ((catM (ByteArray.mk [58].toArray) a0.Text).bind fun c16 => (catM u12 c16).bind fun c17 => some c17) (some u12)
def m_gleeref2_ToneLines_l2  (i11 : Nat) (x12 : TTone) (u15 : (List ByteArray)) : Option (Flow (List ByteArray) (Flow ByteArray ByteArray)) :=
  (m_gleeref2_toneText x12).bind fun y21 => (appM 16 u15 [y21]).bind fun q23 => some (.nxt q23)
def m_gleeref2_ToneLines_l1  (i4 : Nat) (x5 : (List TTone)) (u7 : ByteArray) : Option (Flow ByteArray ByteArray) :=
  (rangeM m_gleeref2_ToneLines_l2 0 x5 []).bind fun f18 => Flow.fin f18 fun u15 => (m_strings_Join u15 (ByteArray.mk [32].toArray)).bind fun y26 => (catM y26 (ByteArray.mk [10].toArray)).bind fun c27 => (catM u7 c27).bind fun c28 => some (.nxt c28)
def m_gleeref2_ToneLines (a0 : (List TBar)) (a1 : (List TTone)) : Option ByteArray :=
  (m_gleeref2_InBarsOf a0 a1).bind fun y1 => (rangeM m_gleeref2_ToneLines_l1 0 y1 ByteArray.empty).bind fun f10 => Flow.fin f10 fun u7 => some u7
def m_gleemake_Stream_Changed (a0_0 : (List Int)) (a0_1 : Int) (a1 : ByteArray) (a2 : ByteArray) : Option (ByteArray × Int) :=
  (ifB (a1.toList == ByteArray.empty.toList) (some (.inl true)) (some (.inl (a2.toList == ByteArray.empty.toList))) : Option (Bool ⊕ (ByteArray × Int))).bind fun k3 => Sum.fin k3 fun u1 => ifB u1 (some (a2, a0_1)) ((m_gleemake_Stream_Next a0_0 a0_1 (a1.size : Int)).bind fun y4 => (m_gleemake_Stream_Next a0_0 y4.2 (a2.size : Int)).bind fun y5 => (strI a2 y5.1).bind fun c6 => (m_gleemake_Stream_Next a0_0 y5.2 3).bind fun y7 => ifB (y7.1 == 0) ((strS a1 0 y4.1).bind fun c8 => (catM c8 (Utf8.encode (IntKind.wrap .i32 c6))).bind fun c9 => (strS a1 (w64 (y4.1 + 1)) (a1.size : Int)).bind fun c10 => (catM c9 c10).bind fun c11 => some (c11, y7.2)) (ifB (y7.1 == 1) ((strS a1 0 y4.1).bind fun c12 => (catM c12 (Utf8.encode (IntKind.wrap .i32 c6))).bind fun c13 => (strS a1 y4.1 (a1.size : Int)).bind fun c14 => (catM c13 c14).bind fun c15 => some (c15, y7.2)) ((strS a1 0 y4.1).bind fun c16 => (strS a1 (w64 (y4.1 + 1)) (a1.size : Int)).bind fun c17 => (catM c16 c17).bind fun c18 => some (c18, y7.2))))
def m_gleemake_Stream_ToneText_l1 (a0_0 : (List Int)) (i7 : Nat) (x8 : Nat) (u10 : (ByteArray × Int)) : Option (Flow (ByteArray × Int) (ByteArray × Int)) :=
  (m_gleemake_Stream_Changed a0_0 u10.2 u10.1 (ByteArray.mk [32, 10, 58, 47, 126, 45, 48, 45, 57, 54, 97].toArray)).bind fun y14 => some (.nxt (y14.1, y14.2))
def m_gleemake_Stream_ToneText (a0_0 : (List Int)) (a0_1 : Int) (a1 : (List TBar)) : Option (ByteArray × Int) :=
  (m_gleeref2_BarsFault a1).bind fun y1 => ifB (y1 != 0) (some ((ByteArray.mk [54, 48, 58, 49, 47, 52, 10].toArray), a0_1)) ((m_gleemake_Stream_TonesFor a0_0 a0_1 a1).bind fun y2 => (m_gleeref2_ToneLines a1 y2.1).bind fun y4 => (m_gleemake_Stream_Pick a0_0 y2.2 [0, 0, 1, 2]).bind fun y6 => (rangeI y6.1).bind fun L15 => (rangeM (m_gleemake_Stream_ToneText_l1 a0_0) 0 L15 (y4, y6.2)).bind fun f13 => Flow.fin f13 fun u10 => some (u10.1, u10.2))
def m_piece_played (a0 : (List TBar)) : Option (List Int) :=
  (m_piece_repeats a0).bind fun y1 => (m_piece_order a0 y1.1 2000).bind fun y3 => some y3
def m_piece_Order (a0 : (List TBar)) : Option ((List Int) × Int) :=
  (m_piece_CheckBars a0).bind fun y1 => ifB (y1 != 0) (some ([], y1)) ((m_piece_played a0).bind fun y3 => some (y3, 0))
def m_chord_isKind (a0 : Int) : Option Bool :=
  (m_kit_Outside a0 1 7).bind fun y1 => some (!y1)
def m_chord_above (a0 : Int) : Option (List Int) :=
  (getI [[], [0, 4, 7], [0, 3, 7], [0, 3, 6], [0, 4, 8], [0, 4, 7, 10], [0, 4, 7, 11], [0, 3, 7, 10]] a0).bind fun e12 => some e12
def m_chord_CheckChord (a0 : TChord) : Option Int :=
  (m_kit_Outside a0.Root 0 11).bind fun y2 => ifB y2 (some 1) ((m_chord_isKind a0.Kind).bind fun y3 => ifB (!y3) (some 4) ((m_chord_above a0.Kind).bind fun y4 => (m_kit_Outside a0.Turn 0 (w64 ((y4.length : Int) - 1))).bind fun y6 => ifB y6 (some 1) (some 0)))
def m_chord_rootWords  : Option (List ByteArray) :=
  some [(ByteArray.mk [99].toArray), (ByteArray.mk [99, 35].toArray), (ByteArray.mk [100].toArray), (ByteArray.mk [100, 35].toArray), (ByteArray.mk [101].toArray), (ByteArray.mk [102].toArray), (ByteArray.mk [102, 35].toArray), (ByteArray.mk [103].toArray), (ByteArray.mk [103, 35].toArray), (ByteArray.mk [97].toArray), (ByteArray.mk [97, 35].toArray), (ByteArray.mk [98].toArray)]
def m_chord_kindWords  : Option (List ByteArray) :=
  some [ByteArray.empty, (ByteArray.mk [109, 97, 106].toArray), (ByteArray.mk [109, 105, 110].toArray), (ByteArray.mk [100, 105, 109].toArray), (ByteArray.mk [97, 117, 103].toArray), (ByteArray.mk [55].toArray), (ByteArray.mk [109, 97, 106, 55].toArray), (ByteArray.mk [109, 105, 110, 55].toArray)]
def m_chord_Name (a0 : TChord) : Option (ByteArray × Int) :=
  (m_chord_CheckChord a0).bind fun y2 => ifB (y2 != 0) (some (ByteArray.empty, y2)) ((m_chord_rootWords.bind fun y6 => (getI y6 a0.Root).bind fun e8 => (catM e8 (ByteArray.mk [32].toArray)).bind fun c9 => m_chord_kindWords.bind fun y10 => (getI y10 a0.Kind).bind fun e12 => (catM c9 e12).bind fun c13 => some (.inl c13) : Option (ByteArray ⊕ (ByteArray × Int))).bind fun k5 => Sum.fin k5 fun u3 => ifB (decide (a0.Turn > 0)) ((m_strconv_Itoa a0.Turn).bind fun y18 => (catM (ByteArray.mk [47].toArray) y18).bind fun c19 => (catM u3 c19).bind fun c20 => some (c20, 0)) (some (u3, 0)))
def m_kit_IsMoment (a0 : Int) : Option Bool :=
  (m_kit_Outside a0 0 345686399999).bind fun y1 => some (!y1)
def m_kit_IsKey (a0 : ByteArray) : Option Bool :=
  ifB (!(a0.toList == ByteArray.empty.toList)) (ifB (decide ((a0.size : Int) ≤ 40)) ((strI a0 0).bind fun c1 => (m_strings_IndexByte (ByteArray.mk [97, 98, 99, 100, 101, 102, 103, 104, 105, 106, 107, 108, 109, 110, 111, 112, 113, 114, 115, 116, 117, 118, 119, 120, 121, 122].toArray) c1).bind fun y2 => ifB (decide (y2 ≥ 0)) ((m_strings_Trim a0 (ByteArray.mk [97, 98, 99, 100, 101, 102, 103, 104, 105, 106, 107, 108, 109, 110, 111, 112, 113, 114, 115, 116, 117, 118, 119, 120, 121, 122, 48, 49, 50, 51, 52, 53, 54, 55, 56, 57, 45, 95].toArray)).bind fun y3 => some (y3.toList == ByteArray.empty.toList)) (some false)) (some false)) (some false)
def m_cmp_isNaN_int (a0 : Int) : Option Bool :=
  some (a0 != a0)
def m_cmp_Compare_int (a0 : Int) (a1 : Int) : Option Int :=
  (m_cmp_isNaN_int a0).bind fun y1 => (m_cmp_isNaN_int a1).bind fun y2 => ifB y1 (ifB y2 (some 0) (some (-1))) (ifB y2 (some 1) (ifB (decide (a0 < a1)) (some (-1)) (ifB (decide (a0 > a1)) (some 1) (some 0))))
def m_rehearse_flagNumber (a0 : Bool) : Option Int :=
  ifB a0 (some 1) (some 0)
def m_cmp_Or_int_l1  (i1 : Nat) (x2 : Int) (u4 : Unit) : Option (Flow Unit Int) :=
  ifB (x2 != 0) (some (.ret x2)) (some (.nxt ()))
def m_cmp_Or_int (a0 : (List Int)) : Option Int :=
  (rangeM m_cmp_Or_int_l1 0 a0 ()).bind fun f7 => Flow.fin f7 fun u4 => some 0
def m_rehearse_compareCame (a0 : TCame) (a1 : TCame) : Option Int :=
  (m_cmp_Compare_int a0.At a1.At).bind fun y3 => (m_strings_Compare a0.Singer a1.Singer).bind fun y4 => (m_rehearse_flagNumber a0.Left).bind fun y5 => (m_rehearse_flagNumber a1.Left).bind fun y6 => (m_cmp_Compare_int y5 y6).bind fun y7 => (m_cmp_Or_int [y3, y4, y7]).bind fun y9 => some y9
def m_rehearse_CheckCame_l1 (a0 : (List TCame)) (i1 : Nat) (x2 : TCame) (u4 : Unit) : Option (Flow Unit Int) :=
  (m_kit_IsMoment x2.At).bind fun y9 => ifB (!y9) (some (.ret 1)) ((m_kit_IsKey x2.Singer).bind fun y10 => ifB (!y10) (some (.ret 5)) (ifB (decide ((i1 : Int) > 0)) ((getI a0 (w64 ((i1 : Int) - 1))).bind fun e11 => (m_rehearse_compareCame e11 x2).bind fun y12 => ifB (decide (y12 ≥ 0)) (some (.ret 7)) (some (.nxt ()))) (some (.nxt ()))))
def m_rehearse_CheckCame (a0 : (List TCame)) : Option Int :=
  ifB (decide ((a0.length : Int) > 5000)) (some 2) ((rangeM (m_rehearse_CheckCame_l1 a0) 0 a0 ()).bind fun f7 => Flow.fin f7 fun u4 => some 0)
def m_rehearse_joined_l1  (i1 : Nat) (x2 : TWindow) (u5 : (List TWindow)) : Option (Flow (List TWindow) (List TWindow)) :=
  ifB (decide ((w64 ((u5.length : Int) - 1)) ≥ 0)) ((getI u5 (w64 ((u5.length : Int) - 1))).bind fun e11 => ifB (decide (x2.From ≤ e11.To)) ((getI u5 (w64 ((u5.length : Int) - 1))).bind fun e12 => (getI u5 (w64 ((u5.length : Int) - 1))).bind fun e13 => some (.nxt (u5.set ((w64 ((u5.length : Int) - 1)).toNat) (TWindow.mk e13.From (max e12.To x2.To))))) ((appM 16 u5 [x2]).bind fun q15 => some (.nxt q15))) ((appM 16 u5 [x2]).bind fun q18 => some (.nxt q18))
def m_rehearse_joined (a0 : (List TWindow)) : Option (List TWindow) :=
  (rangeM m_rehearse_joined_l1 0 a0 []).bind fun f8 => Flow.fin f8 fun u5 => some u5
def m_rehearse_presences_l3  (i50 : Nat) (x51 : ByteArray) (u57 : (List (ByteArray × (List TWindow)))) : Option (Flow (List (ByteArray × (List TWindow))) (List (ByteArray × (List TWindow)))) :=
  (m_rehearse_joined ((lkM u57 x51).getD [])).bind fun y62 => some (.nxt (putM u57 x51 y62))
def m_rehearse_presences_l2  (i33 : Nat) (x34 : (ByteArray × Int)) (u38 : (List (ByteArray × (List TWindow)))) : Option (Flow (List (ByteArray × (List TWindow))) (List (ByteArray × (List TWindow)))) :=
  (appM 16 ((lkM u38 x34.1).getD []) [(TWindow.mk x34.2 345686400000)]).bind fun q44 => some (.nxt (putM u38 x34.1 q44))
def m_rehearse_presences_l1  (i3 : Nat) (x4 : TCame) (u6 : ((List (ByteArray × Int)) × (List (ByteArray × (List TWindow))))) : Option (Flow ((List (ByteArray × Int)) × (List (ByteArray × (List TWindow)))) (List (ByteArray × (List TWindow)))) :=
  (ifB (!x4.Left) (some (.inl (!(hasM u6.1 x4.Singer)))) (some (.inl false)) : Option (Bool ⊕ (Flow ((List (ByteArray × Int)) × (List (ByteArray × (List TWindow)))) (List (ByteArray × (List TWindow)))))).bind fun k13 => Sum.fin k13 fun u11 => ifB u11 (some (.nxt (putM u6.1 x4.Singer x4.At, u6.2))) ((ifB x4.Left (some (.inl (hasM u6.1 x4.Singer))) (some (.inl false)) : Option (Bool ⊕ (Flow ((List (ByteArray × Int)) × (List (ByteArray × (List TWindow)))) (List (ByteArray × (List TWindow)))))).bind fun k18 => Sum.fin k18 fun u16 => ifB u16 (ifB (decide (((lkM u6.1 x4.Singer).getD 0) < x4.At)) ((appM 16 ((lkM u6.2 x4.Singer).getD []) [(TWindow.mk ((lkM u6.1 x4.Singer).getD 0) x4.At)]).bind fun q22 => some (.nxt (delM u6.1 x4.Singer, putM u6.2 x4.Singer q22))) (some (.nxt (delM u6.1 x4.Singer, u6.2)))) (some (.nxt (u6.1, u6.2))))
def m_rehearse_presences (a0 : (List TCame)) : Option (List (ByteArray × (List TWindow))) :=
  (rangeM m_rehearse_presences_l1 0 a0 ([], [])).bind fun f9 => Flow.fin f9 fun u6 => anyOrd u6.1 fun L41 => (rangeM m_rehearse_presences_l2 0 L41 u6.2).bind fun f69 => Flow.fin f69 fun u38 => anyOrd (u38.map Prod.fst) fun L60 => (rangeM m_rehearse_presences_l3 0 L60 u38).bind fun f68 => Flow.fin f68 fun u57 => some u57
def m_kit_Has (a0 : TWindow) (a1 : Int) : Option Bool :=
  ifB (decide (a0.From ≤ a1)) (some (decide (a1 < a0.To))) (some false)
def m_rehearse_There_1 (a0 : TWindow) (a1_0 : Int) : Option Bool :=
  (m_kit_Has a0 a1_0).bind fun y2 => some y2
def m_slices_IndexFunc_api_Window_api_Window__rehearse_There_1_l1 (a1_c0_0 : Int) (i1 : Nat) (x2 : TWindow) (u4 : Unit) : Option (Flow Unit Int) :=
  (m_rehearse_There_1 x2 a1_c0_0).bind fun y8 => ifB y8 (some (.ret (i1 : Int))) (some (.nxt ()))
def m_slices_IndexFunc_api_Window_api_Window__rehearse_There_1 (a0 : (List TWindow)) (a1_c0_0 : Int) : Option Int :=
  (rangeM (m_slices_IndexFunc_api_Window_api_Window__rehearse_There_1_l1 a1_c0_0) 0 a0 ()).bind fun f7 => Flow.fin f7 fun u4 => some (-1)
def m_slices_ContainsFunc_api_Window_api_Window__rehearse_There_1 (a0 : (List TWindow)) (a1_c0_0 : Int) : Option Bool :=
  (m_slices_IndexFunc_api_Window_api_Window__rehearse_There_1 a0 a1_c0_0).bind fun y1 => some (decide (y1 ≥ 0))
noncomputable def m_slices_Sorted_string__maps_Keys_map_string_bool_string_bool_1 (a0_c0_0 : (List (ByteArray × Bool))) : Option (List ByteArray) :=
  if a0_c0_0.length ≤ 1000000000 then m_slices_Sort_string_string (a0_c0_0.map Prod.fst) else none
def m_rehearse_There_l1 (a1 : Int) (y7 : (List (ByteArray × (List TWindow)))) (i14 : Nat) (x15 : ByteArray) (u21 : (List (ByteArray × Bool))) : Option (Flow (List (ByteArray × Bool)) ((List ByteArray) × Int)) :=
  (m_slices_ContainsFunc_api_Window_api_Window__rehearse_There_1 ((lkM y7 x15).getD []) a1).bind fun y26 => ifB y26 (some (.nxt (putM u21 x15 true))) (some (.nxt u21))
def m_rehearse_There (a0 : (List TCame)) (a1 : Int) : Option ((List ByteArray) × Int) :=
  (m_rehearse_CheckCame a0).bind fun y2 => ifB (y2 != 0) (some ([], y2)) ((m_kit_IsMoment a1).bind fun y4 => ifB (!y4) (some ([], 1)) ((m_rehearse_presences a0).bind fun y7 => anyOrd (y7.map Prod.fst) fun L24 => (rangeM (m_rehearse_There_l1 a1 y7) 0 L24 []).bind fun f32 => Flow.fin f32 fun u21 => (m_slices_Sorted_string__maps_Keys_map_string_bool_string_bool_1 u21).bind fun y30 => some (y30, 0)))
def m_concert_CheckItems_1 (a0 : TItem) (a1_0 : ByteArray) (a1_1 : ByteArray) (a1_2 : Int) (a1_3 : (List ByteArray)) : Option Bool :=
  some (a0.Key.toList == a1_0.toList)
def m_slices_IndexFunc_api_Item_api_Item__concert_CheckItems_1_l1 (a1_c0_0 : ByteArray) (a1_c0_1 : ByteArray) (a1_c0_2 : Int) (a1_c0_3 : (List ByteArray)) (i1 : Nat) (x2 : TItem) (u4 : Unit) : Option (Flow Unit Int) :=
  (m_concert_CheckItems_1 x2 a1_c0_0 a1_c0_1 a1_c0_2 a1_c0_3).bind fun y8 => ifB y8 (some (.ret (i1 : Int))) (some (.nxt ()))
def m_slices_IndexFunc_api_Item_api_Item__concert_CheckItems_1 (a0 : (List TItem)) (a1_c0_0 : ByteArray) (a1_c0_1 : ByteArray) (a1_c0_2 : Int) (a1_c0_3 : (List ByteArray)) : Option Int :=
  (rangeM (m_slices_IndexFunc_api_Item_api_Item__concert_CheckItems_1_l1 a1_c0_0 a1_c0_1 a1_c0_2 a1_c0_3) 0 a0 ()).bind fun f7 => Flow.fin f7 fun u4 => some (-1)
def m_slices_ContainsFunc_api_Item_api_Item__concert_CheckItems_1 (a0 : (List TItem)) (a1_c0_0 : ByteArray) (a1_c0_1 : ByteArray) (a1_c0_2 : Int) (a1_c0_3 : (List ByteArray)) : Option Bool :=
  (m_slices_IndexFunc_api_Item_api_Item__concert_CheckItems_1 a0 a1_c0_0 a1_c0_1 a1_c0_2 a1_c0_3).bind fun y1 => some (decide (y1 ≥ 0))
def m_concert_partsFault_l1 (a0 : (List ByteArray)) (i1 : Nat) (x2 : ByteArray) (u4 : Unit) : Option (Flow Unit Int) :=
  (m_kit_IsKey x2).bind fun y8 => ifB (!y8) (some (.ret 5)) ((ifB (decide ((i1 : Int) > 0)) ((getI a0 (w64 ((i1 : Int) - 1))).bind fun e12 => some (.inl (Op.bytesLess x2.toList e12.toList || x2.toList == e12.toList))) (some (.inl false)) : Option (Bool ⊕ (Flow Unit Int))).bind fun k11 => Sum.fin k11 fun u9 => ifB u9 (some (.ret 7)) (some (.nxt ())))
def m_concert_partsFault (a0 : (List ByteArray)) : Option Int :=
  ifB ((a0.length : Int) == 0) (some 8) (ifB (decide ((a0.length : Int) > 12)) (some 2) ((rangeM (m_concert_partsFault_l1 a0) 0 a0 ()).bind fun f7 => Flow.fin f7 fun u4 => some 0))
def m_concert_CheckItems_l1 (a0 : (List TItem)) (i1 : Nat) (x2 : TItem) (u4 : Unit) : Option (Flow Unit Int) :=
  ((m_kit_IsKey x2.Key).bind fun y12 => ifB (!y12) (some (.inl true)) ((m_kit_IsKey x2.Places).bind fun y13 => some (.inl (!y13))) : Option (Bool ⊕ (Flow Unit Int))).bind fun k11 => Sum.fin k11 fun u9 => ifB u9 (some (.ret 5)) ((sliceI a0 0 (i1 : Int)).bind fun q14 => (m_slices_ContainsFunc_api_Item_api_Item__concert_CheckItems_1 q14 x2.Key x2.Places x2.Long x2.Parts).bind fun y15 => ifB y15 (some (.ret 6)) ((m_kit_Outside x2.Long 1 86400000).bind fun y16 => ifB y16 (some (.ret 1)) ((m_concert_partsFault x2.Parts).bind fun y17 => ifB (y17 != 0) (some (.ret y17)) (some (.nxt ())))))
def m_concert_CheckItems (a0 : (List TItem)) : Option Int :=
  ifB (decide ((a0.length : Int) > 60)) (some 2) ((rangeM (m_concert_CheckItems_l1 a0) 0 a0 ()).bind fun f7 => Flow.fin f7 fun u4 => some 0)
def m_concert_CheckProgram (a0 : TProgram) : Option Int :=
  (m_concert_CheckItems a0.Items).bind fun y2 => ifB (y2 != 0) (some y2) (((m_kit_Outside a0.Change 0 86400000).bind fun y6 => ifB y6 (some (.inl true)) ((m_kit_Outside a0.Clap 0 86400000).bind fun y7 => ifB y7 (some (.inl true)) ((m_kit_Outside a0.Break 0 86400000).bind fun y8 => ifB y8 (some (.inl true)) ((m_kit_Outside a0.Half (-1) (max (-1) (w64 ((a0.Items.length : Int) - 2)))).bind fun y9 => some (.inl y9)))) : Option (Bool ⊕ Int)).bind fun k5 => Sum.fin k5 fun u3 => ifB u3 (some 1) (some 0))
def m_concert_change (a0 : TProgram) (a1 : TItem) (a2 : TItem) : Option Int :=
  ifB (!(a1.Places.toList == a2.Places.toList)) (some a0.Change) (some a0.Clap)
def m_concert_behind (a0 : TProgram) (a1 : Int) : Option Int :=
  ifB (a1 == a0.Half) (some a0.Break) ((getI a0.Items a1).bind fun e2 => (getI a0.Items (w64 (a1 + 1))).bind fun e3 => (m_concert_change a0 e2 e3).bind fun y4 => some y4)
def m_concert_begins_l1 (a0 : TProgram) (i2 : Nat) (x3 : TItem) (u6 : (Int × (List Int))) : Option (Flow (Int × (List Int)) ((List Int) × Int)) :=
  (appM 8 u6.2 [u6.1]).bind fun q13 => ifB (decide ((w64 ((i2 : Int) + 1)) < (a0.Items.length : Int))) ((m_concert_behind a0 (i2 : Int)).bind fun y15 => some (.nxt (w64 ((w64 (u6.1 + x3.Long)) + y15), q13))) (some (.nxt (w64 (u6.1 + x3.Long), q13)))
def m_concert_begins (a0 : TProgram) : Option ((List Int) × Int) :=
  (rangeM (m_concert_begins_l1 a0) 0 a0.Items (0, [])).bind fun f9 => Flow.fin f9 fun u6 => some (u6.2, u6.1)
def m_concert_Long (a0 : TProgram) : Option (Int × Int) :=
  (m_concert_CheckProgram a0).bind fun y2 => ifB (y2 != 0) (some (0, y2)) ((m_concert_begins a0).bind fun y3 => some (y3.2, 0))
def m_club_usesOf (a0 : Int) : Option Tclub_uses :=
  ifB (a0 == 1) (ifB (a0 == 4) (ifB (a0 == 1) (some (Tclub_uses.mk true true true (a0 == 5) (a0 == 7))) (some (Tclub_uses.mk true true (a0 == 3) (a0 == 5) (a0 == 7)))) (ifB (a0 == 5) (ifB (a0 == 1) (some (Tclub_uses.mk true true true (a0 == 5) (a0 == 7))) (some (Tclub_uses.mk true true (a0 == 3) (a0 == 5) (a0 == 7)))) (ifB (a0 == 1) (some (Tclub_uses.mk true (a0 == 6) true (a0 == 5) (a0 == 7))) (some (Tclub_uses.mk true (a0 == 6) (a0 == 3) (a0 == 5) (a0 == 7)))))) (ifB (a0 == 2) (ifB (a0 == 4) (ifB (a0 == 1) (some (Tclub_uses.mk true true true (a0 == 5) (a0 == 7))) (some (Tclub_uses.mk true true (a0 == 3) (a0 == 5) (a0 == 7)))) (ifB (a0 == 5) (ifB (a0 == 1) (some (Tclub_uses.mk true true true (a0 == 5) (a0 == 7))) (some (Tclub_uses.mk true true (a0 == 3) (a0 == 5) (a0 == 7)))) (ifB (a0 == 1) (some (Tclub_uses.mk true (a0 == 6) true (a0 == 5) (a0 == 7))) (some (Tclub_uses.mk true (a0 == 6) (a0 == 3) (a0 == 5) (a0 == 7)))))) (ifB (a0 == 3) (ifB (a0 == 4) (ifB (a0 == 1) (some (Tclub_uses.mk true true true (a0 == 5) (a0 == 7))) (some (Tclub_uses.mk true true (a0 == 3) (a0 == 5) (a0 == 7)))) (ifB (a0 == 5) (ifB (a0 == 1) (some (Tclub_uses.mk true true true (a0 == 5) (a0 == 7))) (some (Tclub_uses.mk true true (a0 == 3) (a0 == 5) (a0 == 7)))) (ifB (a0 == 1) (some (Tclub_uses.mk true (a0 == 6) true (a0 == 5) (a0 == 7))) (some (Tclub_uses.mk true (a0 == 6) (a0 == 3) (a0 == 5) (a0 == 7)))))) (ifB (a0 == 4) (ifB (a0 == 1) (some (Tclub_uses.mk (a0 == 5) true true (a0 == 5) (a0 == 7))) (some (Tclub_uses.mk (a0 == 5) true (a0 == 3) (a0 == 5) (a0 == 7)))) (ifB (a0 == 5) (ifB (a0 == 1) (some (Tclub_uses.mk (a0 == 5) true true (a0 == 5) (a0 == 7))) (some (Tclub_uses.mk (a0 == 5) true (a0 == 3) (a0 == 5) (a0 == 7)))) (ifB (a0 == 1) (some (Tclub_uses.mk (a0 == 5) (a0 == 6) true (a0 == 5) (a0 == 7))) (some (Tclub_uses.mk (a0 == 5) (a0 == 6) (a0 == 3) (a0 == 5) (a0 == 7))))))))
def m_club_formed (a0 : TAct) : Option Int :=
  (m_kit_IsKey a0.Site).bind fun y2 => ifB (!y2) (some 5) (((m_kit_Outside a0.No 1 1000000).bind fun y6 => ifB y6 (some (.inl true)) ((m_kit_IsMoment a0.At).bind fun y7 => some (.inl (!y7))) : Option (Bool ⊕ Int)).bind fun k5 => Sum.fin k5 fun u3 => ifB u3 (some 1) ((m_kit_Outside a0.Kind 1 7).bind fun y8 => ifB y8 (some 4) ((m_club_usesOf a0.Kind).bind fun y9 => (ifB (a0.Kind == 3) (some (.inl 1)) (some (.inl 0)) : Option (Int ⊕ Int)).bind fun k13 => Sum.fin k13 fun u11 => (ifB y9.who ((m_kit_IsKey a0.Who).bind fun y17 => ifB (!y17) (some (.inl true)) (ifB y9.motion ((m_kit_IsKey a0.Motion).bind fun y18 => ifB (!y18) (some (.inl true)) (ifB y9.undo ((m_kit_IsKey a0.Of).bind fun y19 => some (.inl (!y19))) (some (.inl false)))) (ifB y9.undo ((m_kit_IsKey a0.Of).bind fun y20 => some (.inl (!y20))) (some (.inl false))))) (ifB y9.motion ((m_kit_IsKey a0.Motion).bind fun y21 => ifB (!y21) (some (.inl true)) (ifB y9.undo ((m_kit_IsKey a0.Of).bind fun y22 => some (.inl (!y22))) (some (.inl false)))) (ifB y9.undo ((m_kit_IsKey a0.Of).bind fun y23 => some (.inl (!y23))) (some (.inl false)))) : Option (Bool ⊕ Int)).bind fun k16 => Sum.fin k16 fun u14 => ifB u14 (some 5) ((ifB y9.cents ((m_kit_Outside a0.Cents u11 1000000000).bind fun y27 => ifB y27 (some (.inl true)) (ifB y9.undo ((m_kit_Outside a0.Other 1 1000000).bind fun y28 => some (.inl y28)) (some (.inl false)))) (ifB y9.undo ((m_kit_Outside a0.Other 1 1000000).bind fun y29 => some (.inl y29)) (some (.inl false))) : Option (Bool ⊕ Int)).bind fun k26 => Sum.fin k26 fun u24 => ifB u24 (some 1) ((ifB (!y9.who) (ifB (!(a0.Who.toList == ByteArray.empty.toList)) (some (.inl true)) (ifB (!y9.motion) (ifB (!(a0.Motion.toList == ByteArray.empty.toList)) (some (.inl true)) (ifB (!y9.cents) (ifB (a0.Cents != 0) (some (.inl true)) (ifB (!y9.yes) (ifB a0.Yes (some (.inl true)) (ifB (!y9.undo) (ifB (!(a0.Of.toList == ByteArray.empty.toList)) (some (.inl true)) (some (.inl (a0.Other != 0)))) (some (.inl false)))) (ifB (!y9.undo) (ifB (!(a0.Of.toList == ByteArray.empty.toList)) (some (.inl true)) (some (.inl (a0.Other != 0)))) (some (.inl false))))) (ifB (!y9.yes) (ifB a0.Yes (some (.inl true)) (ifB (!y9.undo) (ifB (!(a0.Of.toList == ByteArray.empty.toList)) (some (.inl true)) (some (.inl (a0.Other != 0)))) (some (.inl false)))) (ifB (!y9.undo) (ifB (!(a0.Of.toList == ByteArray.empty.toList)) (some (.inl true)) (some (.inl (a0.Other != 0)))) (some (.inl false)))))) (ifB (!y9.cents) (ifB (a0.Cents != 0) (some (.inl true)) (ifB (!y9.yes) (ifB a0.Yes (some (.inl true)) (ifB (!y9.undo) (ifB (!(a0.Of.toList == ByteArray.empty.toList)) (some (.inl true)) (some (.inl (a0.Other != 0)))) (some (.inl false)))) (ifB (!y9.undo) (ifB (!(a0.Of.toList == ByteArray.empty.toList)) (some (.inl true)) (some (.inl (a0.Other != 0)))) (some (.inl false))))) (ifB (!y9.yes) (ifB a0.Yes (some (.inl true)) (ifB (!y9.undo) (ifB (!(a0.Of.toList == ByteArray.empty.toList)) (some (.inl true)) (some (.inl (a0.Other != 0)))) (some (.inl false)))) (ifB (!y9.undo) (ifB (!(a0.Of.toList == ByteArray.empty.toList)) (some (.inl true)) (some (.inl (a0.Other != 0)))) (some (.inl false))))))) (ifB (!y9.motion) (ifB (!(a0.Motion.toList == ByteArray.empty.toList)) (some (.inl true)) (ifB (!y9.cents) (ifB (a0.Cents != 0) (some (.inl true)) (ifB (!y9.yes) (ifB a0.Yes (some (.inl true)) (ifB (!y9.undo) (ifB (!(a0.Of.toList == ByteArray.empty.toList)) (some (.inl true)) (some (.inl (a0.Other != 0)))) (some (.inl false)))) (ifB (!y9.undo) (ifB (!(a0.Of.toList == ByteArray.empty.toList)) (some (.inl true)) (some (.inl (a0.Other != 0)))) (some (.inl false))))) (ifB (!y9.yes) (ifB a0.Yes (some (.inl true)) (ifB (!y9.undo) (ifB (!(a0.Of.toList == ByteArray.empty.toList)) (some (.inl true)) (some (.inl (a0.Other != 0)))) (some (.inl false)))) (ifB (!y9.undo) (ifB (!(a0.Of.toList == ByteArray.empty.toList)) (some (.inl true)) (some (.inl (a0.Other != 0)))) (some (.inl false)))))) (ifB (!y9.cents) (ifB (a0.Cents != 0) (some (.inl true)) (ifB (!y9.yes) (ifB a0.Yes (some (.inl true)) (ifB (!y9.undo) (ifB (!(a0.Of.toList == ByteArray.empty.toList)) (some (.inl true)) (some (.inl (a0.Other != 0)))) (some (.inl false)))) (ifB (!y9.undo) (ifB (!(a0.Of.toList == ByteArray.empty.toList)) (some (.inl true)) (some (.inl (a0.Other != 0)))) (some (.inl false))))) (ifB (!y9.yes) (ifB a0.Yes (some (.inl true)) (ifB (!y9.undo) (ifB (!(a0.Of.toList == ByteArray.empty.toList)) (some (.inl true)) (some (.inl (a0.Other != 0)))) (some (.inl false)))) (ifB (!y9.undo) (ifB (!(a0.Of.toList == ByteArray.empty.toList)) (some (.inl true)) (some (.inl (a0.Other != 0)))) (some (.inl false)))))) : Option (Bool ⊕ Int)).bind fun k32 => Sum.fin k32 fun u30 => ifB u30 (some 3) (some 0))))))
def m_club_compare (a0 : TAct) (a1 : TAct) : Option Int :=
  (m_cmp_Compare_int a0.At a1.At).bind fun y3 => (m_strings_Compare a0.Site a1.Site).bind fun y4 => (m_cmp_Compare_int a0.No a1.No).bind fun y5 => (m_cmp_Or_int [y3, y4, y5]).bind fun y7 => some y7
def m_club_CheckActs_l2  (i13 : Nat) (x14 : TAct) (u16 : (List (Tclub_own × Bool))) : Option (Flow (List (Tclub_own × Bool)) Int) :=
  ifB ((lkM u16 (Tclub_own.mk x14.Site x14.No)).getD false) (some (.ret 6)) (some (.nxt (putM u16 (Tclub_own.mk x14.Site x14.No) true)))
def m_club_CheckActs_l1 (a0 : (List TAct)) (i1 : Nat) (x2 : TAct) (u4 : Unit) : Option (Flow Unit Int) :=
  (m_club_formed x2).bind fun y9 => ifB (y9 != 0) (some (.ret y9)) (ifB (decide ((i1 : Int) > 0)) ((getI a0 (w64 ((i1 : Int) - 1))).bind fun e10 => (m_club_compare e10 x2).bind fun y11 => ifB (decide (y11 ≥ 0)) (some (.ret 7)) (some (.nxt ()))) (some (.nxt ())))
def m_club_CheckActs (a0 : (List TAct)) : Option Int :=
  ifB (decide ((a0.length : Int) > 2000)) (some 2) ((rangeM (m_club_CheckActs_l1 a0) 0 a0 ()).bind fun f7 => Flow.fin f7 fun u4 => (rangeM m_club_CheckActs_l2 0 a0 []).bind fun f19 => Flow.fin f19 fun u16 => some 0)
def m_club_askedFault (a0 : (List TAct)) (a1 : Int) : Option Int :=
  (m_club_CheckActs a0).bind fun y1 => ifB (y1 != 0) (some y1) ((m_kit_IsMoment a1).bind fun y2 => ifB (!y2) (some 1) (some 0))
def m_slices_Reverse_int_int_l1  (u1 : (Int × Int × (List Int))) : Option (Flow (Int × Int × (List Int)) (List Int)) :=
  ifB (decide (u1.1 < u1.2.1)) ((getI u1.2.2 u1.2.1).bind fun e5 => (getI u1.2.2 u1.1).bind fun e6 => (getI u1.2.2 u1.1).bind fun e7 => (getI (u1.2.2.set u1.1.toNat e5) u1.2.1).bind fun e8 => some (.nxt (w64 (u1.1 + 1), w64 (u1.2.1 - 1), ((u1.2.2.set u1.1.toNat e5).set u1.2.1.toNat e6)))) (some (.brk (u1.1, u1.2.1, u1.2.2)))
def m_slices_Reverse_int_int (a0 : (List Int)) : Option (List Int) :=
  (loopM m_slices_Reverse_int_int_l1 (0, w64 ((a0.length : Int) - 1), a0)).bind fun f4 => Flow.fin f4 fun u1 => some u1.2.2
def m_club_counting_l1 (a1 : Int) (i6 : Nat) (x7 : TAct) (u13 : ((List (Tclub_own × Bool)) × (List Int))) : Option (Flow ((List (Tclub_own × Bool)) × (List Int)) (List Int)) :=
  (ifB (decide (x7.At > a1)) (some (.inl true)) (some (.inl ((lkM u13.1 (Tclub_own.mk x7.Site x7.No)).getD false))) : Option (Bool ⊕ (Flow ((List (Tclub_own × Bool)) × (List Int)) (List Int)))).bind fun k21 => Sum.fin k21 fun u19 => ifB u19 (some (.nxt (u13.1, u13.2))) ((appM 8 u13.2 [(i6 : Int)]).bind fun q23 => ifB (x7.Kind == 7) (some (.nxt (putM u13.1 (Tclub_own.mk x7.Of x7.Other) true, q23))) (some (.nxt (u13.1, q23))))
def m_club_counting (a0 : (List TAct)) (a1 : Int) : Option (List Int) :=
  (rangeB (m_club_counting_l1 a1) a0 ([], [])).bind fun f16 => Flow.fin f16 fun u13 => (m_slices_Reverse_int_int u13.2).bind fun y29 => some y29
def m_club_books_isMember (a0_0 : Int) (a0_1 : (List (ByteArray × (List Tclub_stay)))) (a0_2 : (List (ByteArray × Int))) (a0_3 : (List (ByteArray × (Bool × (List (ByteArray × Bool)) × (List ByteArray))))) (a0_4 : (List Int)) (a1 : ByteArray) : Option Bool :=
  ifB (decide ((((lkM a0_1 a1).getD []).length : Int) > 0)) ((getI ((lkM a0_1 a1).getD []) (w64 ((((lkM a0_1 a1).getD []).length : Int) - 1))).bind fun e1 => some (decide (e1.till < 0))) (some false)
def m_club_books_isOpen (a0_0 : Int) (a0_1 : (List (ByteArray × (List Tclub_stay)))) (a0_2 : (List (ByteArray × Int))) (a0_3 : (List (ByteArray × (Bool × (List (ByteArray × Bool)) × (List ByteArray))))) (a0_4 : (List Int)) (a1 : ByteArray) : Option Bool :=
  optB (lkM a0_3 a1) (some false) (fun t4 => some (!t4.1))
def m_club_books_permits (a0_0 : Int) (a0_1 : (List (ByteArray × (List Tclub_stay)))) (a0_2 : (List (ByteArray × Int))) (a0_3 : (List (ByteArray × (Bool × (List (ByteArray × Bool)) × (List ByteArray))))) (a0_4 : (List Int)) (a1 : TAct) : Option Bool :=
  ifB (a1.Kind == 1) ((m_club_books_isMember a0_0 a0_1 a0_2 a0_3 a0_4 a1.Who).bind fun y2 => some (!y2)) (ifB (a1.Kind == 2) ((m_club_books_isMember a0_0 a0_1 a0_2 a0_3 a0_4 a1.Who).bind fun y3 => some y3) (ifB (a1.Kind == 4) (optB (lkM a0_3 a1.Motion) (some true) (fun t7 => some false)) (ifB (a1.Kind == 5) ((m_club_books_isMember a0_0 a0_1 a0_2 a0_3 a0_4 a1.Who).bind fun y15 => ifB y15 ((m_club_books_isOpen a0_0 a0_1 a0_2 a0_3 a0_4 a1.Motion).bind fun y16 => some y16) (some false)) (ifB (a1.Kind == 6) ((m_club_books_isOpen a0_0 a0_1 a0_2 a0_3 a0_4 a1.Motion).bind fun y17 => some y17) (some true)))))
noncomputable def m_slices_Sorted_string__maps_Keys_map_string_club_stay_string_club_stay_1 (a0_c0_0 : (List (ByteArray × (List Tclub_stay)))) : Option (List ByteArray) :=
  if a0_c0_0.length ≤ 1000000000 then m_slices_Sort_string_string (a0_c0_0.map Prod.fst) else none
def m_club_books_members_l1 (a0_0 : Int) (a0_1 : (List (ByteArray × (List Tclub_stay)))) (a0_2 : (List (ByteArray × Int))) (a0_3 : (List (ByteArray × (Bool × (List (ByteArray × Bool)) × (List ByteArray))))) (a0_4 : (List Int)) (i4 : Nat) (x5 : ByteArray) (u8 : (List ByteArray)) : Option (Flow (List ByteArray) (List ByteArray)) :=
  (m_club_books_isMember a0_0 a0_1 a0_2 a0_3 a0_4 x5).bind fun y13 => ifB y13 ((appM 16 u8 [x5]).bind fun q15 => some (.nxt q15)) (some (.nxt u8))
def m_club_books_members (a0_0 : Int) (a0_1 : (List (ByteArray × (List Tclub_stay)))) (a0_2 : (List (ByteArray × Int))) (a0_3 : (List (ByteArray × (Bool × (List (ByteArray × Bool)) × (List ByteArray))))) (a0_4 : (List Int)) : Option (List ByteArray) :=
  (m_slices_Sorted_string__maps_Keys_map_string_club_stay_string_club_stay_1 a0_1).bind fun y2 => (rangeM (m_club_books_members_l1 a0_0 a0_1 a0_2 a0_3 a0_4) 0 y2 []).bind fun f11 => Flow.fin f11 fun u8 => some u8
def m_club_books_act (a0_0 : Int) (a0_1 : (List (ByteArray × (List Tclub_stay)))) (a0_2 : (List (ByteArray × Int))) (a0_3 : (List (ByteArray × (Bool × (List (ByteArray × Bool)) × (List ByteArray))))) (a0_4 : (List Int)) (a1 : TAct) : Option ((List (ByteArray × (List Tclub_stay))) × (List (ByteArray × Int)) × (List (ByteArray × (Bool × (List (ByteArray × Bool)) × (List ByteArray))))) :=
  ifB (a1.Kind == 1) ((appM 24 ((lkM a0_1 a1.Who).getD []) [(Tclub_stay.mk a1.At (-1) a1.Cents)]).bind fun q4 => some (putM a0_1 a1.Who q4, a0_2, a0_3)) (ifB (a1.Kind == 2) ((getI ((lkM a0_1 a1.Who).getD []) (w64 ((((lkM a0_1 a1.Who).getD []).length : Int) - 1))).bind fun e13 => some (repM a0_1 a1.Who (((lkM a0_1 a1.Who).getD []).set ((w64 ((((lkM a0_1 a1.Who).getD []).length : Int) - 1)).toNat) (Tclub_stay.mk e13.since a1.At e13.cents)), a0_2, a0_3)) (ifB (a1.Kind == 3) (some (a0_1, putM a0_2 a1.Who (w64 (((lkM a0_2 a1.Who).getD 0) + a1.Cents)), a0_3)) (ifB (a1.Kind == 4) (some (a0_1, a0_2, putM a0_3 a1.Motion (false, ([] : (List (ByteArray × Bool))), ([] : List ByteArray)))) (ifB (a1.Kind == 5) (optB (lkM a0_3 a1.Motion) (none) (fun t30 => some (a0_1, a0_2, repM a0_3 a1.Motion (t30.1, (putM t30.2.1 a1.Who a1.Yes), t30.2.2)))) (ifB (a1.Kind == 6) (optB (lkM a0_3 a1.Motion) ((m_club_books_members a0_0 a0_1 a0_2 a0_3 a0_4).bind fun y45 => none) (fun t43 => (m_club_books_members a0_0 a0_1 a0_2 a0_3 a0_4).bind fun y53 => some (a0_1, a0_2, repM a0_3 a1.Motion (true, t43.2.1, y53)))) (some (a0_1, a0_2, a0_3)))))))
def m_club_booksAt_l1 (a0 : (List TAct)) (a1 : Int) (i7 : Nat) (x8 : Int) (u11 : ((List (ByteArray × (Bool × (List (ByteArray × Bool)) × (List ByteArray)))) × (List (ByteArray × Int)) × (List (ByteArray × (List Tclub_stay))) × (List Int))) : Option (Flow ((List (ByteArray × (Bool × (List (ByteArray × Bool)) × (List ByteArray)))) × (List (ByteArray × Int)) × (List (ByteArray × (List Tclub_stay))) × (List Int)) (Int × (List (ByteArray × (List Tclub_stay))) × (List (ByteArray × Int)) × (List (ByteArray × (Bool × (List (ByteArray × Bool)) × (List ByteArray)))) × (List Int))) :=
  (getI a0 x8).bind fun e16 => (m_club_books_permits a1 u11.2.2.1 u11.2.1 u11.1 u11.2.2.2 e16).bind fun y17 => ifB y17 ((getI a0 x8).bind fun e18 => (m_club_books_act a1 u11.2.2.1 u11.2.1 u11.1 u11.2.2.2 e18).bind fun y19 => some (.nxt (y19.2.2, y19.2.1, y19.1, u11.2.2.2))) ((appM 8 u11.2.2.2 [x8]).bind fun q29 => some (.nxt (u11.1, u11.2.1, u11.2.2.1, q29)))
def m_club_booksAt (a0 : (List TAct)) (a1 : Int) : Option (Int × (List (ByteArray × (List Tclub_stay))) × (List (ByteArray × Int)) × (List (ByteArray × (Bool × (List (ByteArray × Bool)) × (List ByteArray)))) × (List Int)) :=
  (m_club_counting a0 a1).bind fun y5 => (rangeM (m_club_booksAt_l1 a0 a1) 0 y5 ([], [], [], [])).bind fun f14 => Flow.fin f14 fun u11 => some (a1, u11.2.2.1, u11.2.1, u11.1, u11.2.2.2)
def m_club_checkedAt (a0 : (List TAct)) (a1 : Int) : Option ((Option (Int × (List (ByteArray × (List Tclub_stay))) × (List (ByteArray × Int)) × (List (ByteArray × (Bool × (List (ByteArray × Bool)) × (List ByteArray)))) × (List Int))) × Int) :=
  (m_club_askedFault a0 a1).bind fun y1 => ifB (y1 != 0) (some (none, y1)) ((m_club_booksAt a0 a1).bind fun y2 => some (some (y2.1, y2.2.1, y2.2.2.1, y2.2.2.2.1, y2.2.2.2.2), 0))
def m_club_Members (a0 : (List TAct)) (a1 : Int) : Option ((List ByteArray) × Int) :=
  (m_club_checkedAt a0 a1).bind fun y1 => optB y1.1 (ifB (y1.2 != 0) (some ([], y1.2)) (none)) (fun t2 => ifB (y1.2 != 0) (some ([], y1.2)) ((m_club_books_members t2.1 t2.2.1 t2.2.2.1 t2.2.2.2.1 t2.2.2.2.2).bind fun y33 => some (y33, 0)))
def m_gleekeep2_ready  : Option Bool :=
  (m_piece_Order [(TBar.mk 1 4 2 0 true)]).bind fun y2 => (m_chord_Name (TChord.mk 1 2 1)).bind fun y4 => (m_rehearse_There [(TCame.mk 5 (ByteArray.mk [97, 110, 110].toArray) false)] 6).bind fun y6 => (m_concert_Long (TProgram.mk [(TItem.mk (ByteArray.mk [97].toArray) (ByteArray.mk [112].toArray) 7 [(ByteArray.mk [97, 108, 116, 111].toArray)])] 0 0 0 (-1))).bind fun y10 => (m_club_Members [(TAct.mk (ByteArray.mk [97].toArray) 1 0 1 (ByteArray.mk [97, 110, 110].toArray) ByteArray.empty 0 false ByteArray.empty 0)] 0).bind fun y12 => (m_gleekeep2_errs [y2.2, y4.2, y6.2, y10.2, y12.2]).bind fun y15 => ifB (y15 == 0) (ifB ((y2.1.length : Int) == 2) (ifB (y4.1.toList == (ByteArray.mk [99, 35, 32, 109, 105, 110, 47, 49].toArray).toList) (ifB ((y6.1.length : Int) == 1) (ifB (y10.1 == 7) (some ((y12.1.length : Int) == 1)) (some false)) (some false)) (some false)) (some false)) (some false)
def m_gleekeep2_TonesAreRead (a0 : (List Int)) : Option Bool :=
  (m_gleemake_Stream_RightBars a0 0).bind fun y2 => (m_gleemake_Stream_TonesFor a0 y2.2 y2.1).bind fun y4 => (m_piece_Text y2.1 y4.1).bind fun y6 => (m_piece_Read y2.1 y6.1).bind fun y7 => ((m_gleekeep2_errs [y6.2, y7.2.2]).bind fun y13 => ifB (y13 != 0) (some (.inl true)) ((m_slices_Equal_api_Tone_api_Tone y7.1 y4.1).bind fun y14 => some (.inl (!y14))) : Option (Bool ⊕ Bool)).bind fun k11 => Sum.fin k11 fun u9 => ifB u9 (some false) ((m_gleemake_Stream_ToneText a0 y4.2 y2.1).bind fun y15 => (m_piece_Read y2.1 y15.1).bind fun y16 => ifB (y16.2.2 == 0) ((m_piece_Text y2.1 y16.1).bind fun y18 => ifB (y18.2 == 0) (ifB (y18.1.toList == y15.1.toList) (m_gleekeep2_ready.bind fun y19 => some y19) (some false)) (some false)) (m_gleekeep2_ready.bind fun y20 => some y20))
end
end Go.G
