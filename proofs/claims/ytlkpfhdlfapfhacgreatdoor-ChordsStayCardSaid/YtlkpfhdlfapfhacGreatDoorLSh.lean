/- LSh: models that this row does not reach, as laws that serve other rows too name them. Written by program. -/
import Derived.Test.YtlkpfhdlfapfhacGreatDoorM
namespace Go.G
open Go Go.J
set_option linter.unusedVariables false
noncomputable section
def m_gleeref2_in (a0:Int) (a1:Int) (a2:Int):Option Bool :=
 ifB (decide (a1≤a0)) (some (decide (a0≤a2))) (some false)
def m_gleeref2_ChordFault (a0:TChord):Option Int :=
 (m_gleeref2_in a0.Root 0 11).bind fun y2=>ifB (!y2) (some 1) ((m_gleeref2_in a0.Kind 1 7).bind fun y3=>ifB (!y3) (some 4) ((m_gleeref2_kindTones a0.Kind).bind fun y4=>(m_gleeref2_in a0.Turn 0 (w64 ((y4.length:Int) - 1))).bind fun y6=>ifB (!y6) (some 1) (some 0)))
def m_gleeref2_ChordsFault_l1  (i1:Nat) (x2:TChord) (u4:Unit):Option (Flow Unit Int) :=
 (m_gleeref2_ChordFault x2).bind fun y9=>ifB (y9 != 0) (some (.ret y9)) (some (.nxt ()))
def m_gleeref2_ChordsFault (a0:(List TChord)) (a1:Int):Option Int :=
 ifB (decide ((a0.length:Int)>a1)) (some 2) ((rangeM m_gleeref2_ChordsFault_l1 0 a0 ()).bind fun f7=>Flow.fin f7 fun u4=>some 0)
def m_gleeref2_classes_l1  (i1:Nat) (x2:Int) (u5:(List Int)):Option (Flow (List Int) (List Int)) :=
 (appM 8 u5 [x2.tmod 12]).bind fun q11=>some (.nxt q11)
def m_gleeref2_classes (a0:(List Int)):Option (List Int) :=
 (rangeM m_gleeref2_classes_l1 0 a0 []).bind fun f8=>Flow.fin f8 fun u5=>(m_slices_Sort_int_int u5).bind fun y14=>(m_slices_Compact_int_int y14).bind fun y15=>some y15
def m_gleeref2_BestVoices_l6 (u31:(Int × (List (List Int)) × (List (List Int)))) (i214:Nat) (x215:Int) (u217:Int):Option (Flow Int ((List (List Int)) × Int × Bool × Int)) :=
 (ifB (decide (x215≥0)) (ifB (decide (u217<0)) (some (.inl true)) ((getI u31.2.1 0).bind fun e224=>(getI e224 u217).bind fun e225=>some (.inl (decide (x215<e225))))) (some (.inl false)):Option (Bool ⊕ (Flow Int ((List (List Int)) × Int × Bool × Int)))).bind fun k223=>Sum.fin k223 fun u221=>ifB u221 (some (.nxt (i214:Int))) (some (.nxt u217))
def m_gleeref2_FollowsFault_l1 (a0:(List TFollow)) (i1:Nat) (x2:TFollow) (u4:Unit):Option (Flow Unit Int) :=
 ((m_gleeref2_in x2.From 1 7).bind fun y12=>ifB (!y12) (some (.inl true)) ((m_gleeref2_in x2.To 1 7).bind fun y13=>some (.inl (!y13))):Option (Bool ⊕ (Flow Unit Int))).bind fun k11=>Sum.fin k11 fun u9=>ifB u9 (some (.ret 4)) ((m_gleeref2_in x2.Up 0 11).bind fun y14=>ifB (!y14) (some (.ret 1)) ((ifB (decide ((i1:Int)>0)) ((getI a0 (w64 ((i1:Int) - 1))).bind fun e18=>(getI a0 (w64 ((i1:Int) - 1))).bind fun e19=>(getI a0 (w64 ((i1:Int) - 1))).bind fun e20=>(m_slices_Compare_int_int [e18.From,e19.To,e20.Up] [x2.From,x2.To,x2.Up]).bind fun y23=>some (.inl (decide (y23≥0)))) (some (.inl false)):Option (Bool ⊕ (Flow Unit Int))).bind fun k17=>Sum.fin k17 fun u15=>ifB u15 (some (.ret 7)) (some (.nxt ()))))
def m_gleeref2_FollowsFault (a0:(List TFollow)):Option Int :=
 ifB (decide ((a0.length:Int)>500)) (some 2) ((rangeM (m_gleeref2_FollowsFault_l1 a0) 0 a0 ()).bind fun f7=>Flow.fin f7 fun u4=>some 0)
def m_gleeref2_allChords_l3 (i1:Nat) (u10:(Int × (List TChord))) (i17:Nat) (x18:Int) (u20:(List TChord)):Option (Flow (List TChord) (Flow (Int × (List TChord)) (Flow (List TChord) (List TChord)))) :=
 (appM 24 u20 [(TChord.mk (i1:Int) u10.1 (i17:Int))]).bind fun q26=>some (.nxt q26)
def m_gleeref2_allChords_l2 (i1:Nat) (u10:(Int × (List TChord))):Option (Flow (Int × (List TChord)) (Flow (List TChord) (List TChord))) :=
 ifB (decide (u10.1≤7)) ((m_gleeref2_kindTones u10.1).bind fun y15=>(rangeM (m_gleeref2_allChords_l3 i1 u10) 0 y15 u10.2).bind fun f23=>Flow.fin f23 fun u20=>some (.nxt (w64 (u10.1+1),u20))) (some (.brk (u10.1,u10.2)))
def m_gleeref2_allChords_l1  (i1:Nat) (x2:Nat) (u5:(List TChord)):Option (Flow (List TChord) (List TChord)) :=
 (loopM (m_gleeref2_allChords_l2 i1) (1,u5)).bind fun f13=>Flow.fin f13 fun u10=>some (.nxt u10.2)
def m_gleeref2_allChords  : Option (List TChord) :=
 (rangeI 12).bind fun L31=>(rangeM m_gleeref2_allChords_l1 0 L31 []).bind fun f8=>Flow.fin f8 fun u5=>some u5
def m_gleeref2_ChordsOf_1 (a0:TChord) (a1_0:(List Int)):Option Bool :=
 (m_gleeref2_TonesOf a0).bind fun y2=>((m_gleeref2_classes y2).bind fun y7=>(m_gleeref2_classes a1_0).bind fun y9=>(m_slices_Equal_int_int y7 y9).bind fun y11=>ifB (!y11) (some (.inl true)) ((getI y2 0).bind fun e12=>(m_slices_Min_int_int a1_0).bind fun y13=>some (.inl (e12 != (y13.tmod 12)))):Option (Bool ⊕ Bool)).bind fun k6=>Sum.fin k6 fun u4=>some u4
def m_slices_IndexFunc_api_Chord_api_Chord__gleeref2_ChordsOf_1_l1 (a1_c0_0:(List Int)) (i1:Nat) (x2:TChord) (u4:Unit):Option (Flow Unit Int) :=
 (m_gleeref2_ChordsOf_1 x2 a1_c0_0).bind fun y8=>ifB y8 (some (.ret (i1:Int))) (some (.nxt ()))
def m_slices_IndexFunc_api_Chord_api_Chord__gleeref2_ChordsOf_1 (a0:(List TChord)) (a1_c0_0:(List Int)):Option Int :=
 (rangeM (m_slices_IndexFunc_api_Chord_api_Chord__gleeref2_ChordsOf_1_l1 a1_c0_0) 0 a0 ()).bind fun f7=>Flow.fin f7 fun u4=>some (-1)
def m_slices_DeleteFunc_api_Chord_api_Chord__gleeref2_ChordsOf_1_l1 (a1_c0_0:(List Int)) (u2:(Int × Int × (List TChord))):Option (Flow (Int × Int × (List TChord)) (List TChord)) :=
 ifB (decide (u2.2.1<(u2.2.2.length:Int))) ((getI u2.2.2 u2.2.1).bind fun e6=>(m_gleeref2_ChordsOf_1 e6 a1_c0_0).bind fun y8=>ifB (!y8) ((getI u2.2.2 u2.1).bind fun e9=>some (.nxt (w64 (u2.1+1),w64 (u2.2.1+1),(u2.2.2.set u2.1.toNat e6)))) (some (.nxt (u2.1,w64 (u2.2.1+1),u2.2.2)))) (some (.brk (u2.1,u2.2.1,u2.2.2)))
def m_slices_DeleteFunc_api_Chord_api_Chord__gleeref2_ChordsOf_1 (a0:(List TChord)) (a1_c0_0:(List Int)):Option (List TChord) :=
 (m_slices_IndexFunc_api_Chord_api_Chord__gleeref2_ChordsOf_1 a0 a1_c0_0).bind fun y1=>ifB (y1==(-1)) (some a0) ((loopM (m_slices_DeleteFunc_api_Chord_api_Chord__gleeref2_ChordsOf_1_l1 a1_c0_0) (y1,w64 (y1+1),a0)).bind fun f5=>Flow.fin f5 fun u2=>(sliceI u2.2.2 u2.1 (u2.2.2.length:Int)).bind fun q10=>(sliceI (clearM (TChord.mk 0 0 0) u2.2.2 u2.1) 0 u2.1).bind fun q11=>some q11)
def m_gleeref2_ChordsOf (a0:(List Int)):Option (List TChord) :=
 m_gleeref2_allChords.bind fun y2=>(m_slices_DeleteFunc_api_Chord_api_Chord__gleeref2_ChordsOf_1 y2 a0).bind fun y4=>some y4
def m_gleeref2_NotesFault_l1  (i1:Nat) (x2:Int) (u4:Unit):Option (Flow Unit Int) :=
 (m_gleeref2_in x2 0 127).bind fun y8=>ifB (!y8) (some (.ret 1)) (some (.nxt ()))
def m_gleeref2_NotesFault (a0:(List Int)) (a1:Int):Option Int :=
 ifB ((a0.length:Int)==0) (some 8) (ifB (decide ((a0.length:Int)>a1)) (some 2) ((rangeM m_gleeref2_NotesFault_l1 0 a0 ()).bind fun f7=>Flow.fin f7 fun u4=>some 0))
end
end Go.G
