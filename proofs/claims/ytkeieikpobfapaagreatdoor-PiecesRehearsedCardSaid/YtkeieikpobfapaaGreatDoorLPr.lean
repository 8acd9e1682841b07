/- LPr: PiecesRehearsed. In plain Lean, no program in sight. -/
import Derived.Test.YtkeieikpobfapaaGreatDoorLPi
import Derived.Test.YtkeieikpobfapaaGreatDoorLSd
import Derived.Test.YtkeieikpobfapaaGreatDoorLRtu
namespace Go.G
open Go Go.J
set_option linter.unusedSimpArgs false
set_option linter.unusedVariables false
theorem EqS' (a:List ByteArray):m_slices_Equal_string_string a a=some true:=by
 unfold m_slices_Equal_string_string
 rw [show ((a.length:Int) != (a.length:Int))=false by simp,ifB_false]
 obtain ⟨s,h1,-⟩:=rangeM_invx (m_slices_Equal_string_string_l1 a) a (fun _ _=>True) (by
  intro i x s hx _
  unfold m_slices_Equal_string_string_l1
  rw [getI_of rfl hx,Option.bind_some,show (!(x.toList==x.toList))=false by simp,ifB_false]
  exact ⟨_,rfl,trivial⟩) () trivial
 rw [h1]; rfl
theorem EqP' (a:List TPair):m_slices_Equal_api_Pair_api_Pair a a=some true:=by
 unfold m_slices_Equal_api_Pair_api_Pair
 rw [show ((a.length:Int) != (a.length:Int))=false by simp,ifB_false]
 obtain ⟨s,h1,-⟩:=rangeM_invx (m_slices_Equal_api_Pair_api_Pair_l1 a) a (fun _ _=>True) (by
  intro i x s hx _
  unfold m_slices_Equal_api_Pair_api_Pair_l1
  rw [getI_of rfl hx,Option.bind_some,decide_eq_true rfl]
  exact ⟨_,rfl,trivial⟩) () trivial
 rw [h1]; rfl
theorem rehearsed_yes:m_gleelaw2_rehearsed=some true:=by
 unfold m_gleelaw2_rehearsed
 rw [show (TCame.mk 5 (ByteArray.mk [97,110,110].toArray) false)=TCame.mk 5 annB false from rfl,ready_there,Option.bind_some]
 simp only
 rw [show ((0:Int)==0)=true from rfl,ifB_true,show [(ByteArray.mk [97,110,110].toArray)]=[annB] from rfl,EqS']; rfl
theorem SingList_spec (L:List Int) {p:Int} (hp:0≤p) (hp':p≤700000):∃ l q,m_gleemake_Stream_SingList L p=some (l,q)∧0≤q∧q≤p+30∧l.length≤8:=by
 unfold m_gleemake_Stream_SingList
 obtain ⟨l,q,h1,h2,h3,h4,-⟩:=RightSings_spec L hp (by omega)
 rw [h1,Option.bind_some]
 simp only
 by_cases hl:l.length=0
 ·rw [decide_eq_false (by omega),ifB_false,Option.bind_some,fin_inl]
  exact ⟨l,q,rfl,h2,by omega,h4⟩
 ·obtain ⟨b,h5⟩:=Flip_spec L (p:=q) (n:=12) h2 (by omega) (by omega)
  rw [decide_eq_true (by omega),ifB_true,h5,Option.bind_some,Option.bind_some,fin_inl]
  simp only
  cases b with
  | false=>exact ⟨l,q+1,rfl,by omega,by omega,h4⟩
  | true =>
   obtain ⟨r,h6,h7,h8⟩:=Next_spec L (p:=q+1) (n:=(l.length:Int)) (by omega) (by omega) (by omega)
   have h8:=h8 (by omega)
   rw [ifB_true,h6,Option.bind_some]
   simp only
   rw [getI_of (n:=r.toNat) (by omega) (List.getElem?_eq_getElem (show r.toNat<l.length by omega)),Option.bind_some]
   obtain ⟨v1,k1,-⟩:=Some_spec L (p:=q+1+1) [(l[r.toNat]'(by omega)).Singer,ByteArray.empty,(ByteArray.mk [97,110,110].toArray)] (by omega) (by omega) (by simp) (by simp)
   rw [k1,Option.bind_some]
   simp only
   obtain ⟨v2,k2,-⟩:=Some_spec L (p:=q+1+1+1) [(l[r.toNat]'(by omega)).Piece,(ByteArray.mk [103,108,111,114,105,97].toArray)] (by omega) (by omega) (by simp) (by simp)
   rw [k2,Option.bind_some]
   simp only
   obtain ⟨v3,k3,-⟩:=Some_spec L (p:=q+1+1+1+1) [(l[r.toNat]'(by omega)).Part,ByteArray.empty] (by omega) (by omega) (by simp) (by simp)
   rw [k3,Option.bind_some,Option.bind_some,fin_inl]
   simp only
   exact ⟨_,_,rfl,by omega,by omega,by rw [List.length_set,List.length_set,List.length_set]; exact h4⟩
theorem want_if {α ρ : Type} {e:Int} {F:Option α} {d v : α} (h1:e=0→F=some v) (h2:e≠0→v=d):(ifB (e==0) (F.bind fun y=>some (.inl y)) (some (.inl d)):Option (α ⊕ ρ))=some (.inl v):=by
 by_cases he:e=0
 ·rw [h1 he,he]; rfl
 ·rw [h2 he,beq_eq_false_iff_ne.2 he]; rfl
theorem PiecesRehearsed_true (L:List Int):m_gleelaw2_PiecesRehearsed L=some true:=by
 unfold m_gleelaw2_PiecesRehearsed
 obtain ⟨l,q1,a1,b1,c1,d1⟩:=Slots_spec L (p:=0) 4 (by omega) (by omega) (by omega)
 obtain ⟨g,q2,a2,b2,c2,d2⟩:=SingList_spec L (p:=q1) b1 (by omega)
 obtain ⟨m,a3,b3,c3⟩:=Range_spec L (p:=q2) (a:=0) (b:=10) b2 (by omega) (by omega) (by omega) (by omega)
 obtain ⟨c,q4,a4,b4,c4,d4,e4⟩:=Cames_spec L (p:=q2+1) m.toNat (by omega) (by omega) (by omega)
 rw [show ((m.toNat:Nat):Int)=m by omega] at a4
 obtain ⟨w,q5,a5,b5,c5,d5⟩:=Wishes_spec L (p:=q4) b4 (by omega)
 obtain ⟨who,a6,-⟩:=Some_spec L (p:=q5) [(ByteArray.mk [97,110,110].toArray),(ByteArray.mk [98,111,98].toArray),(ByteArray.mk [122,101,100].toArray),ByteArray.empty] b5 (by omega) (by simp) (by simp)
 obtain ⟨pc,a7,-⟩:=Some_spec L (p:=q5+1) [(ByteArray.mk [103,108,111,114,105,97].toArray),(ByteArray.mk [103,108,111,114,105,97].toArray),(ByteArray.mk [107,121,114,105,101].toArray),(ByteArray.mk [122,122].toArray),(ByteArray.mk [65].toArray)] (by omega) (by omega) (by simp) (by simp)
 obtain ⟨sl,a8,-⟩:=Some_spec L (p:=q5+1+1) [(ByteArray.mk [115,97].toArray),(ByteArray.mk [115,98].toArray),(ByteArray.mk [122,122].toArray)] (by omega) (by omega) (by simp) (by simp)
 obtain ⟨t,a9,-⟩:=Pick_spec L (p:=q5+1+1+1) [0,20,45,60,100,300,(-1)] (by omega) (by omega) (by simp) (by simp)
 have a9':m_gleemake_Stream_RehearsalTime L (q5+1+1+1)=some (t,q5+1+1+1+1):=by unfold m_gleemake_Stream_RehearsalTime; rw [a9]; rfl
 rw [show (4:Int)=((4:Nat):Int) from rfl,a1,Option.bind_some]
 simp only
 rw [a2,Option.bind_some]
 simp only
 rw [a3,Option.bind_some]
 simp only
 rw [a4,Option.bind_some]
 simp only
 rw [a5,Option.bind_some]
 simp only
 rw [a6,Option.bind_some]
 simp only
 rw [a7,Option.bind_some]
 simp only
 rw [a8,Option.bind_some]
 simp only
 rw [a9',Option.bind_some]
 simp only
 obtain ⟨s1,s2,s3⟩:=slots_spec l
 obtain ⟨e2,g1,g2,g3⟩:=sings_spec g
 obtain ⟨e3,f1,f2,f3⟩:=came_spec c (by omega) e4
 obtain ⟨eW,w1,w2,w3⟩:=wishes_spec w
 obtain ⟨n,n1,n2,n3⟩:=slotAt_two l sl
 generalize hF:errF [slotsF l,e2,e3]=fault
 have hK:fault=0→KOK l g c:=fun h=>by
  rw [h] at hF
  have h0:slotsF l=0:=by
   by_cases h0:slotsF l=0
   ·exact h0
   ·rw [errF1 h0] at hF; exact hF
  rw [errF0 h0] at hF
  have h1:e2=0:=by
   by_cases h1:e2=0
   ·exact h1
   ·rw [errF1 h1] at hF; exact hF
  rw [errF0 h1] at hF
  have h2:e3=0:=by
   by_cases h2:e3=0
   ·exact h2
   ·rw [errF1 h2] at hF; exact hF
  rw [h0] at s1
  exact ⟨s1,by rw [g1,h1],slots_sF s1,g3 h1,by omega,f3 h2⟩
 have hE:fault≠0→m_rehearse_keeperOf l g c=some (none,fault):=fun h=>by
  have:=keeper_err s1 g1 f1 (by rw [hF]; exact h)
  rwa [hF] at this
 obtain ⟨v1,r1,r2,r3⟩:∃ v,m_rehearse_Rehearsed l g c who pc t=some (v,errF [fault,nmF who,nmF pc,moF t])∧(errF [fault,nmF who,nmF pc,moF t]=0→m_gleeref2_RehearsedOf l g c who pc t=some v)∧(errF [fault,nmF who,nmF pc,moF t]≠0→v=0):=by
  by_cases h:fault=0
  ·rw [h]; exact Rehearsed_P (hK h) who pc t
  ·rw [errF1 h]; exact ⟨0,Rehearsed_err (hE h) h who pc t,fun k=>absurd k h,fun _=>rfl⟩
 obtain ⟨v2,x1,x2,x3⟩:∃ v,m_rehearse_Ready l g c w pc t=some (v,errF [fault,eW,nmF pc,moF t])∧(errF [fault,eW,nmF pc,moF t]=0→m_gleeref2_ReadyOf l g c w pc t=some v)∧(errF [fault,eW,nmF pc,moF t]≠0→v=[]):=by
  by_cases h:fault=0
  ·rw [h]; exact Ready_P (hK h) w1 w3 pc t
  ·rw [errF1 h]; exact ⟨[],Ready_err (hE h) h w pc t,fun k=>absurd k h,fun _=>rfl⟩
 obtain ⟨v3,y1,y2,y3⟩:∃ v,m_rehearse_Lacking l g c w t=some (v,errF [fault,eW,moF t])∧(errF [fault,eW,moF t]=0→m_gleeref2_LackingFor l g c w t=some v)∧(errF [fault,eW,moF t]≠0→v=[]):=by
  by_cases h:fault=0
  ·rw [h]; exact Lacking_P (hK h) w1 w3 (by omega) t
  ·rw [errF1 h]; exact ⟨[],Lacking_err (hE h) h w t,fun k=>absurd k h,fun _=>rfl⟩
 obtain ⟨v4,z1,z2⟩:∃ v,m_rehearse_Absent l g c sl=some (v,errF [fault,bif decide (n<0) then 8 else 0])∧(ifB (errF [fault,bif decide (n<0) then 8 else 0]==0) ((m_gleeref2_SlotAt l sl).bind fun y71=>(getI l y71).bind fun e72=>(m_gleeref2_AbsentFrom e72 g c).bind fun y73=>some (.inl y73)) (some (.inl [])):Option ((List ByteArray) ⊕ Bool))=some (.inl v):=by
  by_cases h:fault=0
  ·rw [h,errF0 rfl]
   obtain ⟨k1,k2⟩:=Absent_P (hK h) n2
   by_cases hn:n<0
   ·rw [decide_eq_true hn,cond_true]
    exact ⟨[],k1 hn,rfl⟩
   ·obtain ⟨v,s,k3,k4,k5⟩:=k2 hn
    rw [decide_eq_false hn,cond_false]
    refine ⟨v,k4,?_⟩
    rw [n2,Option.bind_some,k3,Option.bind_some,k5]; rfl
  ·rw [errF1 h]
   refine ⟨[],Absent_err (hE h) h sl,?_⟩
   rw [beq_eq_false_iff_ne.2 h]; rfl
 have hwhen:m_gleelaw2_when (decide (n<0)) 8=some (bif decide (n<0) then 8 else 0):=by unfold m_gleelaw2_when; cases decide (n<0) <;> rfl
 rw [r1,Option.bind_some,x1,Option.bind_some,y1,Option.bind_some,z1,Option.bind_some]
 simp only
 rw [s2,Option.bind_some,g2,Option.bind_some,f2,Option.bind_some,errs_spec,Option.bind_some,hF,nameFault_s,Option.bind_some,nameFault_s,Option.bind_some,MomentFault_s,Option.bind_some,errs_spec,Option.bind_some,w2,Option.bind_some,Option.bind_some,Option.bind_some,errs_spec,Option.bind_some,Option.bind_some,Option.bind_some,errs_spec,Option.bind_some]
 rw [n2] at z2 ⊢
 rw [Option.bind_some,hwhen,Option.bind_some,errs_spec,Option.bind_some]
 rw [want_if r2 r3,Option.bind_some,fin_inl,want_if x2 x3,Option.bind_some,fin_inl,want_if y2 y3,Option.bind_some,fin_inl,z2,Option.bind_some,fin_inl,w1,Option.bind_some,Option.bind_some]
 simp only [beq_self_eq_true,ifB_true,EqS',EqP',Option.bind_some,rehearsed_yes]
end Go.G
