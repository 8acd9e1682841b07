/- LPg: how long a singer has rehearsed a piece, by the reference: between all edges of slots. In plain Lean, no program in sight. -/
import Derived.Test.YtkeieikpobfapaaGreatDoorLPf
namespace Go.G
open Go Go.J
set_option linter.unusedSimpArgs false
set_option linter.unusedVariables false
theorem sameP_iff {l:List ByteArray} {k:ByteArray}:sameP l k=true↔k∈l:=by
 unfold sameP
 rw [List.any_eq_true]
 exact ⟨fun ⟨z,h1,h2⟩=>(sameB_iff.1 h2) ▸ h1,fun h=>⟨k,h,sameB_iff.2 rfl⟩⟩
def askL (g:List TSings) (s:TSlot):List ByteArray:=(g.filter (askB s)).map (·.Singer)
theorem askL_len (g:List TSings) (s:TSlot):(askL g s).length≤g.length:=by
 unfold askL; rw [List.length_map]; exact List.length_filter_le _ _
theorem AskedTo_spec (s:TSlot) (g:List TSings) (hg:g.length≤1000000):m_gleeref2_AskedTo s g=some (askL g s):=by
 unfold m_gleeref2_AskedTo
 have key:∀ (t:List TSings) (i:Nat) (u:List ByteArray),u.length+t.length≤1000000→rangeM (m_gleeref2_AskedTo_l1 s) i t u=some (.brk (u++askL t s)):=by
  intro t
  induction t with
  | nil=>intro i u _; simp [askL]
  | cons x t ih =>
   intro i u hu
   rw [List.length_cons] at hu
   have hst:m_gleeref2_AskedTo_l1 s i x u=some (.nxt (bif askB s x then u++[x.Singer] else u)):=by
    unfold m_gleeref2_AskedTo_l1 askB
    rw [Contains_s,show (x.Piece.toList==s.Piece.toList)=sameB s.Piece x.Piece from sameB_symm x.Piece s.Piece]
    cases sameB s.Piece x.Piece
    ·rfl
    rw [ifB_true,Bool.true_and,show ((s.Parts.length:Int)==0)=decide (s.Parts.length=0) by rw [Bool.eq_iff_iff,beq_iff_eq,decide_eq_true_eq]; omega]
    cases decide (s.Parts.length=0)
    ·rw [ifB_false,Bool.false_or,Option.bind_some,Option.bind_some,fin_inl]
     cases sameP s.Parts x.Part
     ·rfl
     ·rw [ifB_true,appM_of (by rw [List.length_singleton]; omega) (by omega)]; rfl
    ·rw [ifB_true,Option.bind_some,fin_inl,ifB_true,appM_of (by rw [List.length_singleton]; omega) (by omega)]; rfl
   rw [rangeM_cons,hst,Option.bind_some,run_nxt]
   unfold askL
   rw [List.filter_cons]
   cases askB s x
   ·exact ih _ _ (show u.length+t.length≤1000000 by omega)
   ·rw [cond_true,ih _ _ (by rw [List.length_append,List.length_singleton]; omega),if_pos rfl,List.map_cons]
    unfold askL
    simp
 rw [key g 0 [] (by simp; omega),Option.bind_some,fin_brk,List.nil_append]
def wantB (g:List TSings) (k p:ByteArray) (w:TWindow) (x:TSlot):Bool:=sameB x.Piece p&&(meetB x.Time w&&sameP (askL g x) k)
theorem want_one {g:List TSings} (hg:g.length≤1000000) (k p:ByteArray) {a b:Int} (hw:0≤a∧a<b∧b≤EndI) {x:TSlot} (hx:isT x.Time=true):m_gleeref2_RehearsedOf_1 x p a b g k=some (wantB g k p ⟨a,b⟩ x):=by
 have hT:=isT_iff.1 hx
 unfold EndI at hT hw
 unfold m_gleeref2_RehearsedOf_1 wantB m_gleeref2_meet
 rw [AskedTo_spec _ _ hg,show (x.Piece.toList==p.toList)=sameB x.Piece p from rfl]
 cases sameB x.Piece p
 ·rfl
 have e:decide (max 0 (w64 ((min x.Time.To b) - (max x.Time.From a)))>0)=meetB x.Time ⟨a,b⟩:=by
  unfold meetB
  rw [w64_id (by omega),Bool.eq_iff_iff,Bool.and_eq_true,decide_eq_true_eq,decide_eq_true_eq,decide_eq_true_eq]
  simp only
  omega
 rw [ifB_true,Option.bind_some]
 simp only
 rw [e,Option.bind_some,Contains_s,Bool.true_and]
 cases meetB x.Time ⟨a,b⟩
 ·rfl
 ·rw [ifB_true,Bool.true_and]; rfl
theorem want_spec {l:List TSlot} (hs:∀ s∈l,isT s.Time=true) {g:List TSings} (hg:g.length≤1000000) (k p:ByteArray) {a b:Int} (hw:0≤a∧a<b∧b≤EndI):m_slices_ContainsFunc_api_Slot_api_Slot__gleeref2_RehearsedOf_1 l p a b g k=some (l.any (wantB g k p ⟨a,b⟩)):=by
 unfold m_slices_ContainsFunc_api_Slot_api_Slot__gleeref2_RehearsedOf_1 m_slices_IndexFunc_api_Slot_api_Slot__gleeref2_RehearsedOf_1
 rw [rangeM_cg (f:=m_slices_IndexFunc_api_Slot_api_Slot__gleeref2_RehearsedOf_1_l1 p a b g k) (g:=fun (i:Nat) x (_:Unit)=>some (if wantB g k p ⟨a,b⟩ x=true then .ret (i:Int) else .nxt ())) (fun i x s hx=>by
  unfold m_slices_IndexFunc_api_Slot_api_Slot__gleeref2_RehearsedOf_1_l1
  rw [want_one hg k p hw (hs x (List.mem_of_getElem? hx)),Option.bind_some]
  cases wantB g k p ⟨a,b⟩ x <;> rfl) ()]
 obtain ⟨j,h1,h2⟩:=index_dec (fun (i:Nat) x (_:Unit)=>some (if wantB g k p ⟨a,b⟩ x=true then Flow.ret (i:Int) else .nxt ())) (wantB g k p ⟨a,b⟩) (fun i x=>rfl) l
 rw [h1,Option.bind_some,h2]
def wantT (l:List TSlot) (g:List TSings) (k p:ByteArray) (t:Int):Bool:=l.any fun x=>sameB x.Piece p&&(hasW x.Time t&&sameP (askL g x) k)
theorem any_cg {α : Type} {p q : α → Bool}:∀ {l:List α},(∀ x∈l,p x=q x)→l.any p=l.any q
 | [],_=>rfl
 | x::l,h=>by rw [List.any_cons,List.any_cons,h x (List.mem_cons_self ..),any_cg (l:=l) fun y hy=>h y (List.mem_cons_of_mem _ hy)]
theorem edges_s (a:Int):∀ (t:List TSlot) (i:Nat) (u:List Int),u.length+2*t.length≤1000000→rangeM (m_gleeref2_RehearsedOf_l1 a) i t u=some (.brk (u++t.flatMap fun x=>[min a x.Time.From,min a x.Time.To])):=by
 intro t
 induction t with
 | nil=>intro i u _; simp
 | cons x t ih =>
  intro i u hu
  rw [List.length_cons] at hu
  have hst:m_gleeref2_RehearsedOf_l1 a i x u=some (.nxt (u++[min a x.Time.From,min a x.Time.To])):=by
   unfold m_gleeref2_RehearsedOf_l1
   rw [appM_of (by simp; omega) (by omega)]; rfl
  rw [rangeM_cons,hst,Option.bind_some,run_nxt,ih _ _ (by simp; omega)]
  simp
theorem reh_ref {l:List TSlot} (hs:SlR l) {g:List TSings} (hg:g.length≤1000000) {c:List TCame} {q:Rows} (hq:Pres c q) (hc:c.length≤5000) (k p:ByteArray) {a:Int} (ha:0≤a∧a≤EndI) :
  m_gleeref2_RehearsedOf l g c k p a=some (cntW (fun t=>wantT l g k p t&&thB c k t) 0 a):=by
 have hl:=hs.len
 have hEnd:EndI=345686400000:=rfl
 unfold m_gleeref2_RehearsedOf
 rw [edges_s a l 0 [a] (by simp; omega),Option.bind_some,fin_brk]
 generalize hE0:[a]++l.flatMap (fun x=>[min a x.Time.From,min a x.Time.To])=E0
 have hmem0:∀ y,y∈E0↔y=a∨∃ x∈l,y=min a x.Time.From∨y=min a x.Time.To:=by
  intro y
  rw [← hE0,List.mem_append,List.mem_singleton,List.mem_flatMap]
  constructor
  ·rintro (h | ⟨x,hx,h⟩)
   ·exact .inl h
   ·simp only [List.mem_cons,List.not_mem_nil,or_false] at h
    exact .inr ⟨x,hx,h⟩
  ·rintro (h | ⟨x,hx,h⟩)
   ·exact .inl h
   ·exact .inr ⟨x,hx,by simpa using h⟩
 have hE0l:E0.length≤601:=by
  rw [← hE0,List.length_append,List.length_flatMap]
  have:∀ t:List TSlot,(t.map fun (x:TSlot)=>[min a x.Time.From,min a x.Time.To].length).sum=2*t.length:=by
   intro t
   induction t with
   | nil=>rfl
   | cons x t ih=>rw [List.map_cons,List.sum_cons,ih,List.length_cons]; simp; omega
  rw [this]; simp; omega
 have hso:m_slices_Sort_int_int E0=some (E0.mergeSort leI):=by unfold m_slices_Sort_int_int; rw [if_pos (by omega)]; rfl
 rw [hso,Option.bind_some]
 have hmem:∀ y,y∈E0.mergeSort leI↔y=a∨∃ x∈l,y=min a x.Time.From∨y=min a x.Time.To:=fun y=>((sortI_perm E0).mem_iff).trans (hmem0 y)
 have hEl:(E0.mergeSort leI).length≤601:=by rw [(sortI_perm E0).length_eq]; exact hE0l
 have hpw:=List.pairwise_iff_getElem.1 (sortI_pw E0)
 generalize E0.mergeSort leI=E at hmem hEl hpw ⊢
 have hT:∀ x∈l,0≤x.Time.From∧x.Time.From<x.Time.To∧x.Time.To≤EndI:=fun x hx=>isT_iff.1 (hs.ok x hx)
 have hin:∀ y∈E,0≤y∧y≤a:=fun y hy=>by
  rcases (hmem y).1 hy with h | ⟨x,hx,h | h⟩
  ·omega
  ·have:=hT x hx; omega
  ·have:=hT x hx; omega
 have hne:0<E.length:=List.length_pos_of_mem ((hmem a).2 (.inl rfl))
 have hmono:∀ (i j:Nat) (hi:i<E.length) (hj:j<E.length),i≤j→E[i]≤E[j]:=fun i j hi hj h=>by
  by_cases e:i=j
  ·subst e; exact Int.le_refl _
  ·exact hpw i j hi hj (by omega)
 have hlast:E[E.length - 1]=a:=by
  obtain ⟨j,hj,he⟩:=List.getElem_of_mem ((hmem a).2 (.inl rfl))
  have h1:=(hin (E[E.length - 1]'(by omega)) (List.getElem_mem ..)).2
  have:=hmono j (E.length - 1) hj (by omega) (by omega)
  omega
 have hgap:∀ (i:Nat) (hi:i+1<E.length) (y:Int),y∈E→y≤E[i]∨E[i+1]≤y:=by
  intro i hi y hy
  obtain ⟨j,hj,he⟩:=List.getElem_of_mem hy
  by_cases h:j≤i
  ·left; have:=hmono j i hj (by omega) h; omega
  ·right; have:=hmono (i+1) j hi hj (by omega); omega
 have hcon:∀ (i:Nat) (hi:i+1<E.length) (t:Int),E[i]≤t→t<E[i+1]→wantT l g k p t=l.any (wantB g k p ⟨E[i],E[i+1]⟩):=by
  intro i hi t h1 h2
  refine any_cg fun x hx=>?_
  have h3:=hT x hx
  have h4:=hgap i hi (min a x.Time.From) ((hmem _).2 (.inr ⟨x,hx,.inl rfl⟩))
  have h5:=hgap i hi (min a x.Time.To) ((hmem _).2 (.inr ⟨x,hx,.inr rfl⟩))
  have h6:=(hin (E[i+1]'hi) (List.getElem_mem ..)).2
  unfold wantB
  rw [show hasW x.Time t=meetB x.Time ⟨E[i],E[i+1]⟩ by
   rw [Bool.eq_iff_iff,hasW_iff]
   unfold meetB
   rw [Bool.and_eq_true,decide_eq_true_eq,decide_eq_true_eq]
   simp only
   omega]
 have hbef:∀ t,t<E[0]→wantT l g k p t=false:=by
  intro t ht
  refine List.any_eq_false.2 fun x hx h=>?_
  rw [Bool.and_eq_true,Bool.and_eq_true] at h
  have h1:=hasW_iff.1 h.2.1
  obtain ⟨j,hj,he⟩:=List.getElem_of_mem ((hmem (min a x.Time.From)).2 (.inr ⟨x,hx,.inl rfl⟩))
  have:=hmono 0 j hne hj (by omega)
  omega
 obtain ⟨f,h1,h2⟩:=loopM_post (m_gleeref2_RehearsedOf_l2 l g c k p E)
  (fun u=>∃ i:Nat,∃ hi:i<E.length,u=(cntW (fun t=>wantT l g k p t&&thB c k t) 0 E[i],(i:Int)))
  (fun u=>E.length - u.2.toNat)
  (fun f=>match f with | .brk u=>u.1=cntW (fun t=>wantT l g k p t&&thB c k t) 0 a | _=>False) (by
   rintro u ⟨i,hi,rfl⟩
   unfold m_gleeref2_RehearsedOf_l2
   simp only
   rw [w64_id (by omega)]
   by_cases hlt:i+1<E.length
   ·have hstep:=hmono i (i+1) hi hlt (by omega)
    have hge:=(hin (E[i]'hi) (List.getElem_mem ..)).1
    have hle:=(hin (E[i+1]'hlt) (List.getElem_mem ..)).2
    have hsp:=cntW_split (fun t=>wantT l g k p t&&thB c k t) (a:=0) (b:=E[i]) (c:=E[i+1]) hge hstep
    have hn0:=cntW_nonneg (fun t=>wantT l g k p t&&thB c k t) 0 E[i]
    have hn1:=cntW_le (p:=fun t=>wantT l g k p t&&thB c k t) (a:=0) (b:=E[i]) hge
    rw [decide_eq_true (by omega),ifB_true,getI_of rfl (List.getElem?_eq_getElem hi),Option.bind_some,getI_of (n:=i+1) (by omega) (List.getElem?_eq_getElem hlt),Option.bind_some]
    left
    by_cases heq:E[i]=E[i+1]
    ·rw [show (E[i]==E[i+1])=true by simpa using heq,ifB_true,Option.bind_some,fin_inl,ifB_true]
     exact ⟨_,rfl,⟨i+1,hlt,by rw [← heq]; rfl⟩,by simp only; omega⟩
    ·rw [show (E[i]==E[i+1])=false by simpa using heq,ifB_false,want_spec hs.ok hg k p ⟨hge,by omega,by omega⟩,Option.bind_some,Option.bind_some,fin_inl]
     cases hwn:l.any (wantB g k p ⟨E[i],E[i+1]⟩) with
     | false =>
      rw [Bool.not_false,ifB_true]
      refine ⟨_,rfl,⟨i+1,hlt,?_⟩,by simp only; omega⟩
      rw [hsp,cntW_none (a:=E[i]) (fun t g1 g2=>by rw [hcon i hlt t g1 g2,hwn]; rfl),Int.add_zero]; rfl
     | true =>
      have hlw:=len_within ⟨E[i],E[i+1]⟩ _ (hq.sep k).1
      have hcv:cntW (covW ((lkM q k).getD [])) E[i] E[i+1]=cntW (fun t=>wantT l g k p t&&thB c k t) E[i] E[i+1]:=cntW_congr fun t g1 g2=>by
       rw [hcon i hlt t g1 g2,hwn,Bool.true_and,hq.cov k t (by omega)]
      have hn2:=cntW_le (p:=fun t=>wantT l g k p t&&thB c k t) (a:=E[i]) (b:=E[i+1]) hstep
      simp only at hlw
      rw [Bool.not_true,ifB_false,Present_eq hq hc k ⟨E[i],E[i+1]⟩ ⟨hstep,by simp only; omega⟩,Option.bind_some,add_len m_gleeref2_RehearsedOf_l3 (fun _ _ _=>rfl) _ 0 _ (clip_in ⟨hge,by simp only; omega⟩) hn0 (by rw [hlw,hcv]; omega),hlw,hcv,Option.bind_some,fin_brk]
      exact ⟨_,rfl,⟨i+1,hlt,by rw [hsp]; rfl⟩,by simp only; omega⟩
   ·right; left
    rw [decide_eq_false (by omega),ifB_false]
    refine ⟨_,rfl,?_⟩
    simp only
    rw [← hlast]
    congr 1
    have:i=E.length - 1:=by omega
    subst this; rfl) (0,0) ⟨0,hne,by
   rw [cntW_none fun t g1 g2=>by rw [hbef t g2]; rfl]; rfl⟩
 rw [h1,Option.bind_some]
 cases f with
 | nxt u=>exact h2.elim
 | ret v=>exact h2.elim
 | brk u=>rw [fin_brk,show u.1=_ from h2]
theorem RehearsedOf_in {l:List TSlot} (hs:SlR l) {g:List TSings} (hg:g.length≤1000000) (hi:SiOK g) {c:List TCame} {q:Rows} (hq:Pres c q) (hc:c.length≤5000) {x:TSings} (hx:x∈g) {a:Int} (ha:0≤a∧a≤EndI) :
  m_gleeref2_RehearsedOf l g c x.Singer x.Piece a=some (rehN l c x a):=by
 rw [reh_ref hs hg hq hc x.Singer x.Piece ha]
 refine congrArg some ?_
 have hw:∀ t,wantT l g x.Singer x.Piece t=asB l x t:=fun t=>any_cg fun s hs=>by
  rw [Bool.eq_iff_iff,Bool.and_eq_true,Bool.and_eq_true,Bool.and_eq_true,sameP_iff,sameB_iff]
  constructor
  ·rintro ⟨h1,h2,h3⟩
   unfold askL at h3
   obtain ⟨y,h4,h5⟩:=List.mem_map.1 h3
   obtain ⟨h6,h7⟩:=List.mem_filter.1 h4
   have h8:s.Piece=y.Piece:=by
    unfold askB at h7
    rw [Bool.and_eq_true,sameB_iff] at h7
    exact h7.1
   have:y=x:=si_uniq hi h6 hx h5 (h8.symm.trans h1)
   exact ⟨this ▸ h7,h2⟩
  ·rintro ⟨h1,h2⟩
   refine ⟨?_,h2,List.mem_map.2 ⟨x,List.mem_filter.2 ⟨hx,h1⟩,rfl⟩⟩
   unfold askB at h1
   rw [Bool.and_eq_true,sameB_iff] at h1
   exact h1.1
 unfold rehN
 rw [cntW_split (fun t=>(decide (t<a)&&asB l x t)&&thB c x.Singer t) ha.1 ha.2,cntW_none (a:=a) (fun t g1 g2=>by rw [decide_eq_false (by omega)]; rfl),Int.add_zero]
 exact cntW_congr fun t g1 g2=>by rw [hw,decide_eq_true g2,Bool.true_and]
theorem RehearsedOf_out {l:List TSlot} (hs:SlR l) {g:List TSings} (hg:g.length≤1000000) {c:List TCame} {q:Rows} (hq:Pres c q) (hc:c.length≤5000) {k p:ByteArray} (hn:∀ x∈g,¬(x.Singer=k∧x.Piece=p)) {a:Int} (ha:0≤a∧a≤EndI) :
  m_gleeref2_RehearsedOf l g c k p a=some 0:=by
 rw [reh_ref hs hg hq hc k p ha]
 refine congrArg some ?_
 refine cntW_none fun t _ _=>?_
 rw [show wantT l g k p t=false from List.any_eq_false.2 fun s hs h=>by
  rw [Bool.and_eq_true,Bool.and_eq_true,sameP_iff,sameB_iff] at h
  obtain ⟨h1,h2,h3⟩:=h
  unfold askL at h3
  obtain ⟨y,h4,h5⟩:=List.mem_map.1 h3
  obtain ⟨h6,h7⟩:=List.mem_filter.1 h4
  unfold askB at h7
  rw [Bool.and_eq_true,sameB_iff] at h7
  exact hn y h6 ⟨h5,h7.1.symm.trans h1⟩]
 rfl
end Go.G
