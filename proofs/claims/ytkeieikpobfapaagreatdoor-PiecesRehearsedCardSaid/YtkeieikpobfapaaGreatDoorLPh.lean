/- LPh: Rehearsed, Ready and Absent, against the reference. In plain Lean, no program in sight. -/
import Derived.Test.YtkeieikpobfapaaGreatDoorLPg
import Derived.Test.YtkeieikpobfapaaGreatDoorLRy
namespace Go.G
open Go Go.J
set_option linter.unusedSimpArgs false
set_option linter.unusedVariables false
def errF:List Int→Int
 | []=>0
 | x::t=>bif x != 0 then x else errF t
theorem errs_spec (l:List Int):m_gleelaw2_errs l=some (errF l):=by
 unfold m_gleelaw2_errs
 have key:∀ (t:List Int) (i:Nat),((rangeM m_gleelaw2_errs_l1 i t ()).bind fun f7=>Flow.fin f7 fun _=>some 0)=some (errF t):=by
  intro t
  induction t with
  | nil=>intro i; rfl
  | cons x t ih =>
   intro i
   have hst:m_gleelaw2_errs_l1 i x ()=some (bif x != 0 then .ret x else .nxt ()):=by
    unfold m_gleelaw2_errs_l1
    cases x != 0 <;> rfl
   rw [rangeM_cons,hst,errF]
   cases hx:x != 0 with
   | true=>rfl
   | false=>rw [cond_false,cond_false,Option.bind_some,run_nxt]; exact ih (i+1)
 exact key l 0
def nmF (k:ByteArray):Int:=bif isKey k then 0 else 5
def moF (a:Int):Int:=bif isMo a then 0 else 1
theorem nameFault_s (k:ByteArray):m_gleelaw2_nameFault k=some (nmF k):=by
 unfold m_gleelaw2_nameFault m_gleelaw2_when nmF
 rw [isKey_ref,Option.bind_some]
 cases isKey k <;> rfl
theorem MomentFault_s (a:Int):m_gleeref2_MomentFault a=some (moF a):=by
 unfold m_gleeref2_MomentFault m_gleeref2_Moment moF isMo
 first
  | rw [in_spec,Option.bind_some]
  | (rw [in_spec]; simp only [Option.bind_some])
 cases decide (0≤a∧a≤345686399999) <;> rfl
theorem keeper_err {l:List TSlot} {g:List TSings} {c:List TCame} {e1 e2 e3:Int} (h1:m_rehearse_CheckSlots l=some e1) (h2:m_rehearse_CheckSings g=some e2) (h3:m_rehearse_CheckCame c=some e3) (hn:errF [e1,e2,e3]≠0) :
  m_rehearse_keeperOf l g c=some (none,errF [e1,e2,e3]):=by
 unfold m_rehearse_keeperOf m_rehearse_slotsFault
 unfold errF errF errF errF at hn ⊢
 rw [h1,Option.bind_some]
 cases a1:e1 != 0 with
 | true=>rw [ifB_true,Option.bind_some,a1,ifB_true,cond_true]
 | false =>
  rw [ifB_false,h2,Option.bind_some,Option.bind_some,cond_false]
  rw [a1,cond_false] at hn
  cases a2:e2 != 0 with
  | true=>rw [ifB_true,cond_true]
  | false =>
   rw [ifB_false,h3,Option.bind_some,cond_false]
   rw [a2,cond_false] at hn
   cases a3:e3 != 0 with
   | true=>rw [ifB_true,cond_true]
   | false=>rw [a3,cond_false] at hn; exact absurd rfl hn
theorem Rehearsed_err {l:List TSlot} {g:List TSings} {c:List TCame} {e:Int} (h:m_rehearse_keeperOf l g c=some (none,e)) (he:e≠0) (k p:ByteArray) (a:Int):m_rehearse_Rehearsed l g c k p a=some (0,e):=by
 unfold m_rehearse_Rehearsed
 rw [h,Option.bind_some]
 simp only
 rw [optB_none,bne_iff_ne.2 he,ifB_true]
theorem Ready_err {l:List TSlot} {g:List TSings} {c:List TCame} {e:Int} (h:m_rehearse_keeperOf l g c=some (none,e)) (he:e≠0) (w:List TWish) (p:ByteArray) (a:Int):m_rehearse_Ready l g c w p a=some ([],e):=by
 unfold m_rehearse_Ready
 rw [h,Option.bind_some]
 simp only
 rw [optB_none,bne_iff_ne.2 he,ifB_true]
theorem Lacking_err {l:List TSlot} {g:List TSings} {c:List TCame} {e:Int} (h:m_rehearse_keeperOf l g c=some (none,e)) (he:e≠0) (w:List TWish) (a:Int):m_rehearse_Lacking l g c w a=some ([],e):=by
 unfold m_rehearse_Lacking
 rw [h,Option.bind_some]
 simp only
 rw [optB_none,bne_iff_ne.2 he,ifB_true]
theorem Absent_err {l:List TSlot} {g:List TSings} {c:List TCame} {e:Int} (h:m_rehearse_keeperOf l g c=some (none,e)) (he:e≠0) (k:ByteArray):m_rehearse_Absent l g c k=some ([],e):=by
 unfold m_rehearse_Absent
 rw [h,Option.bind_some]
 simp only
 rw [optB_none,bne_iff_ne.2 he,ifB_true]
structure KOK (l:List TSlot) (g:List TSings) (c:List TCame):Prop where
 h1:m_rehearse_CheckSlots l=some 0
 h2:m_rehearse_CheckSings g=some 0
 hs:SlR l
 hi:SiOK g
 hg:g.length≤1000
 hc:CmOK c
theorem errF0 {x:Int} {t:List Int} (h:x=0):errF (x::t)=errF t:=by subst h; rfl
theorem errF1 {x:Int} {t:List Int} (h:x≠0):errF (x::t)=x:=by unfold errF; rw [bne_iff_ne.2 h]; rfl
theorem moF_b {a:Int} (h:isMo a=true):0≤a∧a≤EndI:=by
 unfold isMo at h
 have:=of_decide_eq_true h
 unfold EndI; omega
theorem Rehearsed_P {l:List TSlot} {g:List TSings} {c:List TCame} (H:KOK l g c) (k p:ByteArray) (a:Int) :
  ∃ v,m_rehearse_Rehearsed l g c k p a=some (v,errF [0,nmF k,nmF p,moF a])∧(errF [0,nmF k,nmF p,moF a]=0→m_gleeref2_RehearsedOf l g c k p a=some v)∧(errF [0,nmF k,nmF p,moF a]≠0→v=0):=by
 obtain ⟨P,h3,h4⟩:=keeper_ok (g:=g) H.h1 H.h2 H.hc
 unfold m_rehearse_Rehearsed
 rw [h3,Option.bind_some]
 simp only
 rw [optB_some]
 unfold nmF moF
 have hany:∀ (f:List (ByteArray × List TWindow)→Option (Int × Int)) (v e:Int) (A B:Prop),(∀ q,q.Perm (canonM P)→f q=some (v,e))→A→B→∃ v',anyOrd (canonM P) f=some (v',e)∧(e=0→(v'=v→A))∧(v'=v):=fun f v e A B hf hA hB=>⟨v,anyOrd_of hf,fun _ _=>hA,rfl⟩
 cases hk:isKey k with
 | false=>exact ⟨0,anyOrd_of fun q hq=>by rw [show ((0:Int) != 0)=false from rfl,ifB_false,isKey_prog,hk]; rfl,fun h=>(by cases h),fun _=>rfl⟩
 | true =>
  cases hp:isKey p with
  | false=>exact ⟨0,anyOrd_of fun q hq=>by rw [show ((0:Int) != 0)=false from rfl,ifB_false,isKey_prog,hk,isKey_prog,hp]; rfl,fun h=>(by cases h),fun _=>rfl⟩
  | true =>
   cases ha:isMo a with
   | false=>exact ⟨0,anyOrd_of fun q hq=>by rw [show ((0:Int) != 0)=false from rfl,ifB_false,isKey_prog,hk,isKey_prog,hp,isMo_prog,ha]; rfl,fun h=>(by cases h),fun _=>rfl⟩
   | true =>
    obtain ⟨n,k1,k2⟩:=ixM_spec (fun x:TSings=>m_rehearse_Rehearsed_1 x k p) (fun x=>sameB x.Singer k&&sameB x.Piece p) g (fun x _=>by
     unfold m_rehearse_Rehearsed_1
     rw [show (x.Singer.toList==k.toList)=sameB x.Singer k from rfl,show (x.Piece.toList==p.toList)=sameB x.Piece p from rfl]
     cases sameB x.Singer k <;> rfl)
    have k1':m_slices_IndexFunc_api_Sings_api_Sings__rehearse_Rehearsed_1 g k p=some n:=k1
    have hpre:∀ q,q.Perm (canonM P)→Pres c q:=fun q hq=>h4.perm hq
    rcases k2 with ⟨rfl,hno⟩ | ⟨j,rfl,hj,-,x,hx,hd⟩
    ·refine ⟨0,anyOrd_of fun q hq=>by rw [show ((0:Int) != 0)=false from rfl,ifB_false,isKey_prog,hk,isKey_prog,hp,isMo_prog,ha,k1']; rfl,fun _=>?_,fun _=>rfl⟩
     exact RehearsedOf_out H.hs (by have:=H.hg; omega) (h4.perm (List.Perm.refl _)) H.hc.1 (fun x hx hh=>by
      have:=hno x hx
      rw [sameB_iff.2 hh.1,sameB_iff.2 hh.2] at this
      cases this) (moF_b ha)
    ·rw [Bool.and_eq_true,sameB_iff,sameB_iff] at hd
     refine ⟨rehN l c x a,anyOrd_of fun q hq=>?_,fun _=>?_,fun h=>absurd rfl h⟩
     ·rw [show ((0:Int) != 0)=false from rfl,ifB_false,isKey_prog,hk,isKey_prog,hp,isMo_prog,ha,k1']
      simp only [Option.bind_some,Bool.not_true,ifB_false,fin_inl]
      rw [decide_eq_false (by omega),ifB_false,getI_of rfl hx,Option.bind_some,rehearsed_spec H.hs (hpre q hq),Option.bind_some]
      rfl
     ·have:=RehearsedOf_in H.hs (by have:=H.hg; omega) H.hi (h4.perm (List.Perm.refl _)) H.hc.1 (List.mem_of_getElem? hx) (moF_b ha)
      rw [hd.1,hd.2] at this
      exact this
theorem singersOf_spec (g:List TSings) (p:ByteArray) (hg:g.length≤1000000):m_gleeref2_singersOf g p=some ((g.filter fun y=>sameB y.Piece p).map (·.Singer)):=by
 unfold m_gleeref2_singersOf
 rw [AskedTo_spec _ _ hg,Option.bind_some]
 unfold askL
 rw [List.filter_congr (q:=fun y:TSings=>sameB y.Piece p) fun y _=>by
  unfold askB
  simp only [List.length_nil,decide_true,Bool.true_or,Bool.and_true]
  exact sameB_symm _ _]
theorem needOf_ref (w:List TWish) (p:ByteArray):m_gleeref2_needOf w p=some ((wishOf w p).getD 0):=by
 unfold m_gleeref2_needOf
 have key:∀ (t:List TWish) (i:Nat),((rangeM (m_gleeref2_needOf_l1 p) i t ()).bind fun f7=>Flow.fin f7 fun _=>some 0)=some ((wishOf t p).getD 0):=by
  intro t
  induction t with
  | nil=>intro i; rfl
  | cons x t ih =>
   intro i
   have hst:m_gleeref2_needOf_l1 p i x ()=some (bif sameB x.Piece p then .ret x.Need else .nxt ()):=by
    unfold m_gleeref2_needOf_l1
    rw [show (x.Piece.toList==p.toList)=sameB x.Piece p from rfl]
    cases sameB x.Piece p <;> rfl
   rw [rangeM_cons,hst]
   unfold wishOf
   rw [List.find?_cons]
   cases hx:sameB x.Piece p with
   | true=>rw [decide_eq_true (sameB_iff.1 hx)]; rfl
   | false =>
    rw [decide_eq_false (fun h=>by rw [sameB_iff.2 h] at hx; cases hx),cond_false,Option.bind_some,run_nxt]
    exact ih (i+1)
 exact key w 0
theorem wishOf_in {w:List TWish} (hw:WiOK w) {p:ByteArray} {n:Int} (h:wishOf w p=some n):1≤n:=by
 unfold wishOf at h
 cases hf:w.find? (fun x=>decide (x.Piece=p)) with
 | none=>rw [hf] at h; cases h
 | some x =>
  rw [hf] at h
  cases h
  exact (wi_need hw (List.mem_of_find?_eq_some hf)).1
theorem ReadyOf_spec {l:List TSlot} {g:List TSings} {c:List TCame} (H:KOK l g c) {w:List TWish} (hw:WiOK w) (p:ByteArray) {a:Int} (ha:isMo a=true) :
  m_gleeref2_ReadyOf l g c w p a=some ((g.filter fun x=>sameB x.Piece p&&decide (rehN l c x a≥(wishOf w p).getD 1)).map (·.Singer)):=by
 obtain ⟨P,h3,h4⟩:=keeper_ok (g:=g) H.h1 H.h2 H.hc
 have hgl:=H.hg
 have hq:=h4.perm (List.Perm.refl _)
 unfold m_gleeref2_ReadyOf
 rw [singersOf_spec g p (by omega),Option.bind_some]
 have hmx:max 1 ((wishOf w p).getD 0)=(wishOf w p).getD 1:=by
  cases hwo:wishOf w p with
  | none=>rfl
  | some n=>have:=wishOf_in hw hwo; simp only [Option.getD_some]; omega
 have hfl:=List.length_filter_le (fun y:TSings=>sameB y.Piece p) g
 have hdm:m_slices_DeleteFunc_string_string__gleeref2_ReadyOf_1 ((g.filter fun y=>sameB y.Piece p).map (·.Singer)) l g c p a w=dfM ByteArray.empty (fun k=>m_gleeref2_ReadyOf_1 k l g c p a w) ((g.filter fun y=>sameB y.Piece p).map (·.Singer)):=rfl
 rw [hdm,dfM_spec _ _ (fun k=>decide ((m_gleeref2_RehearsedOf l g c k p a).getD 0<(wishOf w p).getD 1)) _ (by rw [List.length_map]; omega) (fun k hk=>by
  obtain ⟨x,hx,rfl⟩:=List.mem_map.1 hk
  obtain ⟨hx1,hx2⟩:=List.mem_filter.1 hx
  have hp:=sameB_iff.1 hx2
  have:=RehearsedOf_in H.hs (by omega) H.hi hq H.hc.1 hx1 (moF_b ha)
  rw [hp] at this
  unfold m_gleeref2_ReadyOf_1
  rw [this,Option.bind_some,needOf_ref,Option.bind_some,hmx]; rfl),Option.bind_some,List.filter_map,List.filter_filter]
 refine congrArg some (congrArg _ (List.filter_congr fun x hx=>?_))
 cases hx2:sameB x.Piece p with
 | false=>rw [Bool.and_false]; rfl
 | true =>
  have:=RehearsedOf_in H.hs (by omega) H.hi hq H.hc.1 hx (moF_b ha)
  rw [sameB_iff.1 hx2] at this
  rw [Bool.and_true,Bool.true_and]
  simp only [Function.comp]
  rw [this,Option.getD_some,Bool.eq_iff_iff,Bool.not_eq_true',decide_eq_false_iff_not,decide_eq_true_eq]
  omega
theorem Ready_P {l:List TSlot} {g:List TSings} {c:List TCame} (H:KOK l g c) {w:List TWish} {eW:Int} (hw:m_rehearse_CheckWishes w=some eW) (hW:eW=0→WiOK w) (p:ByteArray) (a:Int) :
  ∃ v,m_rehearse_Ready l g c w p a=some (v,errF [0,eW,nmF p,moF a])∧(errF [0,eW,nmF p,moF a]=0→m_gleeref2_ReadyOf l g c w p a=some v)∧(errF [0,eW,nmF p,moF a]≠0→v=[]):=by
 obtain ⟨P,h3,h4⟩:=keeper_ok (g:=g) H.h1 H.h2 H.hc
 rw [errF0 rfl]
 by_cases he:eW=0
 ·subst he
  rw [errF0 rfl]
  unfold nmF moF
  cases hp:isKey p with
  | false =>
   refine ⟨[],?_,fun h=>(by cases h),fun _=>rfl⟩
   unfold m_rehearse_Ready
   rw [h3,Option.bind_some]
   simp only
   rw [optB_some]
   exact anyOrd_of fun q hq=>by rw [show ((0:Int) != 0)=false from rfl,ifB_false,hw,Option.bind_some,show ((0:Int) != 0)=false from rfl,ifB_false,isKey_prog,hp]; rfl
  | true =>
   cases ha:isMo a with
   | false =>
    refine ⟨[],?_,fun h=>(by cases h),fun _=>rfl⟩
    unfold m_rehearse_Ready
    rw [h3,Option.bind_some]
    simp only
    rw [optB_some]
    exact anyOrd_of fun q hq=>by rw [show ((0:Int) != 0)=false from rfl,ifB_false,hw,Option.bind_some,show ((0:Int) != 0)=false from rfl,ifB_false,isKey_prog,hp,Option.bind_some,Bool.not_true,ifB_false,isMo_prog,ha]; rfl
   | true=>exact ⟨_,Ready_spec H.h1 H.hs H.h2 H.hg H.hc (hW rfl) hp ha,fun _=>ReadyOf_spec H (hW rfl) p ha,fun h=>absurd rfl h⟩
 ·rw [errF1 he]
  refine ⟨[],?_,fun h=>absurd h he,fun _=>rfl⟩
  unfold m_rehearse_Ready
  rw [h3,Option.bind_some]
  simp only
  rw [optB_some]
  exact anyOrd_of fun q hq=>by rw [show ((0:Int) != 0)=false from rfl,ifB_false,hw,Option.bind_some,bne_iff_ne.2 he,ifB_true]
theorem asked_spec (s:TSlot) (g:List TSings) (hg:g.length≤1000000):m_rehearse_asked s g=some (askL g s):=by
 unfold m_rehearse_asked
 have key:∀ (t:List TSings) (i:Nat) (u:List ByteArray),u.length+t.length≤1000000→rangeM (m_rehearse_asked_l1 s) i t u=some (.brk (u++askL t s)):=by
  intro t
  induction t with
  | nil=>intro i u _; simp [askL]
  | cons x t ih =>
   intro i u hu
   rw [List.length_cons] at hu
   have hst:m_rehearse_asked_l1 s i x u=some (.nxt (bif askB s x then u++[x.Singer] else u)):=by
    unfold m_rehearse_asked_l1
    rw [isAsked_s,Option.bind_some]
    cases askB s x
    ·rfl
    ·rw [ifB_true,appM_of (by rw [List.length_singleton]; omega) (by omega)]; rfl
   rw [rangeM_cons,hst,Option.bind_some,run_nxt]
   unfold askL
   rw [List.filter_cons]
   cases askB s x
   ·exact ih _ _ (show u.length+t.length≤1000000 by omega)
   ·rw [cond_true,ih _ _ (by rw [List.length_append,List.length_singleton]; omega),if_pos rfl,List.map_cons]
    unfold askL
    simp
 rw [key g 0 [] (by simp; omega),Option.bind_some,fin_brk,List.nil_append]
theorem slotAt_two (l:List TSlot) (k:ByteArray):∃ n,m_rehearse_slotAt l k=some n∧m_gleeref2_SlotAt l k=some n∧(n<0∨∃ (j:Nat) (x:TSlot),n=(j:Int)∧l[j]? = some x):=by
 obtain ⟨n,k1,k2⟩:=ixM_spec (fun x:TSlot=>m_rehearse_slotAt_1 x k) (fun x=>sameB x.Key k) l (fun x _=>rfl)
 refine ⟨n,?_,?_,?_⟩
 ·unfold m_rehearse_slotAt
  rw [show m_slices_IndexFunc_api_Slot_api_Slot__rehearse_slotAt_1 l k=some n from k1]; rfl
 ·unfold m_gleeref2_SlotAt
  rw [show m_slices_IndexFunc_api_Slot_api_Slot__gleeref2_SlotAt_1 l k=some n from k1]; rfl
 ·rcases k2 with ⟨rfl,-⟩ | ⟨j,rfl,hj,-,x,hx,-⟩
  ·left; omega
  ·exact .inr ⟨j,x,rfl,hx⟩
def absB (q:Rows) (s:TSlot) (k:ByteArray):Bool:=decide ((((lkM q k).getD []).filterMap (clipW s.Time)).length=0)
theorem AbsentFrom_spec {l:List TSlot} {g:List TSings} {c:List TCame} (H:KOK l g c) {q:Rows} (hq:Pres c q) {s:TSlot} (hs:s∈l):m_gleeref2_AbsentFrom s g c=some ((askL g s).filter (absB q s)):=by
 have hgl:=H.hg
 have hT:=isT_iff.1 (H.hs.ok s hs)
 unfold EndI at hT
 have hal:=askL_len g s
 unfold m_gleeref2_AbsentFrom
 rw [AskedTo_spec _ _ (by omega),Option.bind_some]
 have hdm:m_slices_DeleteFunc_string_string__gleeref2_AbsentFrom_1 (askL g s) c s.Key s.Room s.Piece s.Parts s.Time.From s.Time.To=dfM ByteArray.empty (fun k=>m_gleeref2_AbsentFrom_1 k c s.Key s.Room s.Piece s.Parts s.Time.From s.Time.To) (askL g s):=rfl
 rw [hdm,dfM_spec _ _ (fun k=>!absB q s k) _ (by omega) (fun k hk=>by
  unfold m_gleeref2_AbsentFrom_1
  rw [Present_eq hq H.hc.1 k ⟨s.Time.From,s.Time.To⟩ ⟨by simp only; omega,by simp only; omega⟩,Option.bind_some]
  unfold absB
  congr 1
  rw [Bool.eq_iff_iff,decide_eq_true_eq,Bool.not_eq_true',decide_eq_false_iff_not]
  show _↔¬(List.filterMap (clipW ⟨s.Time.From,s.Time.To⟩) _).length=0
  omega),Option.bind_some]
 simp only [Bool.not_not]
theorem abs_run {l:List TSlot} {c:List TCame} {q:Rows} (hq:Pres c q) {s:TSlot} {j:Nat} (hs:l[j]? = some s):∀ (t:List ByteArray) (i:Nat) (u:List ByteArray),u.length+t.length≤1000000→rangeM (m_rehearse_Absent_l2 l q (j:Int)) i t u=some (.brk (u++t.filter (absB q s))):=by
 intro t
 induction t with
 | nil=>intro i u _; simp
 | cons k t ih =>
  intro i u hu
  rw [List.length_cons] at hu
  have hst:m_rehearse_Absent_l2 l q (j:Int) i k u=some (.nxt (bif absB q s k then u++[k] else u)):=by
   unfold m_rehearse_Absent_l2
   rw [getI_of rfl hs,Option.bind_some,within_spec _ _ (by have:=(hq.sep k).2; omega),Option.bind_some]
   rw [show (((((lkM q k).getD []).filterMap (clipW s.Time)).length:Int)==0)=absB q s k by
    unfold absB; rw [Bool.eq_iff_iff,beq_iff_eq,decide_eq_true_eq]; omega]
   cases absB q s k
   ·rfl
   ·rw [ifB_true,appM_of (by rw [List.length_singleton]; omega) (by omega)]; rfl
  rw [rangeM_cons,hst,Option.bind_some,run_nxt,List.filter_cons]
  cases absB q s k
  ·exact ih _ _ (show u.length+t.length≤1000000 by omega)
  ·rw [cond_true,ih _ _ (by rw [List.length_append,List.length_singleton]; omega),if_pos rfl]
   simp
theorem Absent_P {l:List TSlot} {g:List TSings} {c:List TCame} (H:KOK l g c) {k:ByteArray} {n:Int} (hn:m_gleeref2_SlotAt l k=some n) :
  (n<0→m_rehearse_Absent l g c k=some ([],8))∧(¬ n<0→∃ v s,getI l n=some s∧m_rehearse_Absent l g c k=some (v,0)∧m_gleeref2_AbsentFrom s g c=some v):=by
 obtain ⟨P,h3,h4⟩:=keeper_ok (g:=g) H.h1 H.h2 H.hc
 obtain ⟨n',k1,k2,k3⟩:=slotAt_two l k
 rw [hn] at k2
 cases k2
 have hgl:=H.hg
 unfold m_rehearse_Absent
 rw [h3,Option.bind_some]
 simp only
 rw [optB_some]
 constructor
 ·intro h
  exact anyOrd_of fun q hq=>by rw [show ((0:Int) != 0)=false from rfl,ifB_false,k1,Option.bind_some,decide_eq_true h,ifB_true]
 ·intro h
  rcases k3 with k3 | ⟨j,s,rfl,hs⟩
  ·exact absurd k3 h
  have hsm:=List.mem_of_getElem? hs
  have hsame:∀ q,q.Perm (canonM P)→(askL g s).filter (absB q s)=(askL g s).filter (absB (canonM P) s):=fun q hq=>by
   have e1:=AbsentFrom_spec H (h4.perm hq) hsm
   rw [AbsentFrom_spec H (h4.perm (List.Perm.refl _)) hsm] at e1
   exact (Option.some.inj e1).symm
  refine ⟨_,s,getI_of rfl hs,anyOrd_of fun q hq=>?_,AbsentFrom_spec H (h4.perm (List.Perm.refl _)) hsm⟩
  have hal:=askL_len g s
  rw [show ((0:Int) != 0)=false from rfl,ifB_false,k1,Option.bind_some,decide_eq_false h,ifB_false,getI_of rfl hs,Option.bind_some,asked_spec s g (by omega),Option.bind_some,abs_run (h4.perm hq) hs _ 0 [] (by simp; omega),Option.bind_some,fin_brk,List.nil_append,hsame q hq]
end Go.G
