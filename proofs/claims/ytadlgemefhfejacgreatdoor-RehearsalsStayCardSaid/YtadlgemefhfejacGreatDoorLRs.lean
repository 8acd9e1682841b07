/- LRs: slots that are drawn right are right. In plain Lean, no program in sight. -/
import Derived.Test.YtadlgemefhfejacGreatDoorLRd
import Derived.Test.YtadlgemefhfejacGreatDoorLRk
import Derived.Test.YtadlgemefhfejacGreatDoorLS2
namespace Go.G
open Go Go.J
set_option linter.unusedSimpArgs false
set_option linter.unusedVariables false
def hallS:ByteArray:=ByteArray.mk [104,97,108,108].toArray
def cellS:ByteArray:=ByteArray.mk [99,101,108,108,97,114].toArray
def altS:ByteArray:=ByteArray.mk [97,108,116,111].toArray
def basS:ByteArray:=ByteArray.mk [98,97,115,115].toArray
def keyS:List ByteArray:=[(ByteArray.mk [115,98].toArray),(ByteArray.mk [115,97].toArray),(ByteArray.mk [115,99].toArray),(ByteArray.mk [115,100].toArray),(ByteArray.mk [115,101].toArray)]
theorem keyS_ok:∀ k∈keyS,isKey k=true:=by
 intro k hk
 simp only [keyS,List.mem_cons,List.not_mem_nil,or_false] at hk
 rcases hk with rfl | rfl | rfl | rfl | rfl <;> kernel_rfl
theorem keyS_nd:keyS.Nodup:=by unfold keyS; decide
structure GdSl (x:TSlot):Prop where
 key:x.Key∈keyS
 room:x.Room=hallS∨x.Room=cellS
 piece:x.Piece=gloB∨x.Piece=kyrB
 parts:x.Parts=[]∨x.Parts=[altS]∨x.Parts=[basS]∨x.Parts=[altS,basS]
 time:0≤x.Time.From∧x.Time.From<x.Time.To∧x.Time.To≤100000
structure SlJ (p0:Int) (i:Nat) (s:Int × Int × (List (ByteArray × Int)) × (List TSlot)):Prop where
 a:0≤s.1∧s.1≤200*(i:Int)
 p:OKp (p0+20*i) s.2.1
 f:∀ k,0≤(lkM s.2.2.1 k).getD 0∧(lkM s.2.2.1 k).getD 0≤200*(i:Int)
 l:s.2.2.2.length≤i
 g:∀ x∈s.2.2.2,GdSl x
 k:(s.2.2.2.map (·.Key)).Sublist (keyS.take i)
 r:∀ x∈s.2.2.2,x.Time.To≤(lkM s.2.2.1 x.Room).getD 0
 c:s.2.2.2.Pairwise fun a b=>a.Room=b.Room→a.Time.To≤b.Time.From
theorem parts_run (L:List Int) {k p:Int} (hp:OKp k p) (hk:k≤900000):∃ q u,rangeM (m_gleemake_Stream_RightSlots_l2 L) 0 [altS,basS] (p,[])=some (.brk (q,u))∧OKp (k+2) q∧(u=[]∨u=[altS]∨u=[basS]∨u=[altS,basS]):=by
 have hst:∀ {k p:Int} (x:ByteArray) (i:Nat) (u:List ByteArray),OKp k p→k≤1000000→u.length≤10→∃ q b,m_gleemake_Stream_RightSlots_l2 L i x (p,u)=some (.nxt (q,if b=true then u++[x] else u))∧OKp (k+1) q:=by
  intro k p x i u hp hk hu
  unfold OKp at hp ⊢
  obtain ⟨b,h1⟩:=Flip_spec L (p:=p) (n:=3) hp.1 (by omega) (by omega)
  refine ⟨p+1,b,?_,by omega⟩
  unfold m_gleemake_Stream_RightSlots_l2
  rw [h1,Option.bind_some]
  cases b
  ·rfl
  ·simp only [ifB_true]
   rw [appM_of (by rw [List.length_singleton]; omega) (by omega)]; rfl
 obtain ⟨q1,b1,h1,h2⟩:=hst altS 0 [] hp (by omega) (by simp)
 obtain ⟨q2,b2,h3,h4⟩:=hst basS 1 (if b1=true then []++[altS] else []) h2 (by omega) (by split <;> simp)
 refine ⟨q2,_,by rw [rangeM_cons,h1,Option.bind_some,run_nxt,rangeM_cons,h3,Option.bind_some,run_nxt,rangeM_nil],h4.up (by omega),?_⟩
 cases b1 <;> cases b2 <;> simp
theorem RSl_l1 (L:List Int) (p0:Int) (hp0:0≤p0) (hp1:p0≤500000) (i:Nat) (hi:i<5) (x:ByteArray) (hx:keyS[i]? = some x) (s:Int × Int × (List (ByteArray × Int)) × (List TSlot)) (h:SlJ p0 i s):∃ s',m_gleemake_Stream_RightSlots_l1 L i x s=some (.nxt s')∧SlJ p0 (i+1) s':=by
 obtain ⟨a,p,fr,out⟩:=s
 obtain ⟨h1,h2,h3,h4,h5,h6,h7,h8⟩:=h
 simp only at h1 h2 h3 h4 h5 h6 h7 h8
 have htk:keyS.take (i+1)=keyS.take i++[x]:=by rw [List.take_add_one,hx]; rfl
 suffices hs:∃ r,m_gleemake_Stream_RightSlots_l1 L i x (a,p,fr,out)=some r∧∃ s',r = .nxt s'∧SlJ p0 (i+1) s' by
  obtain ⟨r,e,s',rfl,g⟩:=hs
  exact ⟨s',e,g⟩
 unfold m_gleemake_Stream_RightSlots_l1
 simp only
 refine dr_Flip h2 (by omega) (by omega) fun b q1=>?_
 cases b with
 | true =>
  refine ⟨_,rfl,_,rfl,⟨⟨h1.1,by simp only; omega⟩,q1.up (by omega),fun k=>?_,by simp only; omega,h5,?_,h7,h8⟩⟩
  ·have:=h3 k; simp only; omega
  ·rw [htk]; exact h6.trans (List.sublist_append_left _ _)
 | false =>
  simp only [ifB_false]
  refine dr_Pick q1 (by omega) (by simp) (by simp) fun v q2 hv=>?_
  have hv1:0≤v∧v≤40:=by simp only [List.mem_cons,List.not_mem_nil,or_false] at hv; omega
  refine dr_Some q2 (by omega) (by simp) (by simp) fun room q3 hr=>?_
  refine dr_Some q3 (by omega) (by simp) (by simp) fun piece q4 hpc=>?_
  refine dr_Pick q4 (by omega) (by simp) (by simp) fun w q5 hw=>?_
  have hw1:10≤w∧w≤60:=by simp only [List.mem_cons,List.not_mem_nil,or_false] at hw; omega
  have hr1:room=hallS∨room=cellS:=by
   simp only [List.mem_cons,List.not_mem_nil,or_false] at hr
   rcases hr with rfl | rfl | rfl
   ·exact .inl rfl
   ·exact .inl rfl
   ·exact .inr rfl
  have hp1':piece=gloB∨piece=kyrB:=by
   simp only [List.mem_cons,List.not_mem_nil,or_false] at hpc
   rcases hpc with rfl | rfl | rfl
   ·exact .inl rfl
   ·exact .inr rfl
   ·exact .inl rfl
  simp only
  obtain ⟨q6,ps,hr2,q7,hps⟩:=parts_run L q5 (by omega)
  change ∃ r,((rangeM (m_gleemake_Stream_RightSlots_l2 L) 0 [altS,basS] (p+1+1+1+1+1,[])).bind _)=some r∧_
  rw [hr2,Option.bind_some,fin_brk]
  simp only
  refine ex_app (by rw [List.length_singleton]; omega) (by omega) ?_
  have hf:=h3 room
  rw [w64_id (n:=a+v) (by omega),w64_id (by omega)]
  generalize hA:max (a+v) ((lkM fr room).getD 0)=A
  have hA1:a≤A∧(lkM fr room).getD 0≤A∧0≤A∧A≤200*(i:Int)+40:=by omega
  refine ⟨_,rfl,_,rfl,⟨⟨hA1.2.2.1,by simp only; omega⟩,q7.up (by omega),fun k=>?_,by simp only [List.length_append,List.length_singleton]; omega,fun y hy=>?_,?_,fun y hy=>?_,?_⟩⟩
  ·simp only
   rw [lkM_put]
   by_cases e:k=room
   ·rw [if_pos e,Option.getD_some]; omega
   ·rw [if_neg e]; have:=h3 k; omega
  ·rcases List.mem_append.1 hy with hy | hy
   ·exact h5 y hy
   ·rw [List.mem_singleton.1 hy]
    refine ⟨List.mem_of_getElem? hx,hr1,hp1',hps,by simp only; omega,by simp only; omega,by simp only; omega⟩
  ·simp only
   rw [htk,List.map_append]
   exact h6.append (List.Sublist.refl _)
  ·simp only
   rw [lkM_put]
   rcases List.mem_append.1 hy with hy | hy
   ·have h9:=h7 y hy
    by_cases e:y.Room=room
    ·rw [if_pos e,Option.getD_some]
     rw [e] at h9
     omega
    ·rw [if_neg e]; exact h9
   ·rw [List.mem_singleton.1 hy,if_pos rfl]; exact Int.le_refl _
  ·refine List.pairwise_append.2 ⟨h8,List.pairwise_singleton _ _,fun y hy z hz=>?_⟩
   rw [List.mem_singleton.1 hz]
   intro e
   have h9:=h7 y hy
   simp only at e
   rw [e] at h9
   simp only
   omega
def ltSl (a b:TSlot):Bool:=decide (a.Time.From<b.Time.From)||(decide (a.Time.From=b.Time.From)&&decide (bytesOf a.Key<bytesOf b.Key))
theorem cmpInt1 (a b:Int):m_slices_Compare_int_int [a] [b]=some (cIn a b):=by
 unfold m_slices_Compare_int_int
 rw [rangeM_cons]
 have:m_slices_Compare_int_int_l1 [b] 0 a ()=some (bif cIn a b != 0 then .ret (cIn a b) else .nxt ()):=by
  unfold m_slices_Compare_int_int_l1
  rw [decide_eq_false (by simp),ifB_false,getI_of (n:=0) (x:=b) rfl rfl,Option.bind_some,cI_s,Option.bind_some]
  show ifB (cIn a b != 0) _ _=_
  cases (cIn a b != 0) <;> rfl
 rw [this,Option.bind_some]
 cases h:(cIn a b != 0)
 ·have:cIn a b=0:=by simpa using h
  rw [this]; rfl
 ·rfl
theorem cmpStr (a b:ByteArray):m_cmp_Compare_string a b=some (Lib.compareBytes (bytesOf a) (bytesOf b)):=by
 unfold m_cmp_Compare_string m_cmp_isNaN_string
 simp only [Option.bind_some]
 rw [show (!(a.toList==a.toList))=false by simp,show (!(b.toList==b.toList))=false by simp,ifB_false,ifB_false,Go.Proofs.bytesLess_eq,ByteArray.toList_eq a,ByteArray.toList_eq b]
 change ifB (decide (bytesOf a<bytesOf b)) _ (ifB (!(decide (bytesOf a<bytesOf b)||bytesOf a==bytesOf b)) _ _)=_
 rcases cb_spec (bytesOf a) (bytesOf b) with ⟨g1,g2⟩ | ⟨g1,g2⟩ | ⟨g1,g2⟩
 ·rw [g1,decide_eq_true g2]; rfl
 ·rw [g1,decide_eq_false (show ¬ bytesOf a<bytesOf b from fun g=>by rw [g2] at g; exact bs_irr _ g),show (bytesOf a==bytesOf b)=true by rw [g2]; exact beq_self_eq_true _]; rfl
 ·rw [g1,decide_eq_false (bs_asym g2),show (bytesOf a==bytesOf b)=false from beq_eq_false_iff_ne.2 fun e=>by rw [e] at g2; exact bs_irr _ g2]; rfl
theorem cmpStr1 (a b:ByteArray):m_slices_Compare_string_string [a] [b]=some (Lib.compareBytes (bytesOf a) (bytesOf b)):=by
 unfold m_slices_Compare_string_string
 rw [rangeM_cons]
 have:m_slices_Compare_string_string_l1 [b] 0 a ()=some (bif Lib.compareBytes (bytesOf a) (bytesOf b) != 0 then .ret (Lib.compareBytes (bytesOf a) (bytesOf b)) else .nxt ()):=by
  unfold m_slices_Compare_string_string_l1
  rw [decide_eq_false (by simp),ifB_false,getI_of (n:=0) (x:=b) rfl rfl,Option.bind_some,cmpStr,Option.bind_some]
  cases (Lib.compareBytes (bytesOf a) (bytesOf b) != 0) <;> rfl
 rw [this,Option.bind_some]
 cases h:(Lib.compareBytes (bytesOf a) (bytesOf b) != 0)
 ·have:Lib.compareBytes (bytesOf a) (bytesOf b)=0:=by simpa using h
  rw [this]; rfl
 ·rfl
theorem cmpSl (a b:TSlot):∃ c,m_gleemake_Stream_RightSlots_1 a b=some c∧decide (c<0)=ltSl a b:=by
 unfold m_gleemake_Stream_RightSlots_1
 rw [cmpInt1,Option.bind_some,cmpStr1]
 unfold cIn ltSl
 by_cases h1:a.Time.From<b.Time.From
 ·rw [decide_eq_true h1]; exact ⟨-1,rfl,rfl⟩
 ·by_cases h2:a.Time.From>b.Time.From
  ·rw [decide_eq_false h1,decide_eq_true h2,decide_eq_false (show ¬ a.Time.From=b.Time.From by omega)]; exact ⟨1,rfl,rfl⟩
  ·rw [decide_eq_false h1,decide_eq_false h2,decide_eq_true (show a.Time.From=b.Time.From by omega)]
   refine ⟨Lib.compareBytes (bytesOf a.Key) (bytesOf b.Key),rfl,?_⟩
   rcases cb_spec (bytesOf a.Key) (bytesOf b.Key) with ⟨g1,g2⟩ | ⟨g1,g2⟩ | ⟨g1,g2⟩
   ·rw [g1,decide_eq_true g2]; rfl
   ·rw [g1,decide_eq_false (show ¬ bytesOf a.Key<bytesOf b.Key from fun g=>by rw [g2] at g; exact bs_irr _ g)]; rfl
   ·rw [g1,decide_eq_false (bs_asym g2)]; rfl
theorem ltSl_iff {a b:TSlot}:ltSl a b=true↔a.Time.From<b.Time.From∨(a.Time.From=b.Time.From∧bytesOf a.Key<bytesOf b.Key):=by
 unfold ltSl
 rw [Bool.or_eq_true,Bool.and_eq_true,decide_eq_true_eq,decide_eq_true_eq,decide_eq_true_eq]
theorem sortR (u:List TSlot) (h:u.length≤12) (hk:(u.map (·.Key)).Nodup):∃ m,m_slices_SortFunc_api_Slot_api_Slot__gleemake_Stream_RightSlots_1 u=some m∧m.Perm u∧m.Pairwise fun a b=>ltSl a b=true:=by
 have h1:=isM_ins ltSl m_gleemake_Stream_RightSlots_1 u (by omega) fun x _ y _=>cmpSl x y
 have hpw:u.Pairwise fun a b=>(ltSl b a=true↔ltSl b a=true)∧(ltSl b a=true∨ltSl a b=true):=by
  rw [List.nodup_iff_pairwise_ne,List.pairwise_map] at hk
  refine hk.imp fun {a b} hab=>⟨Iff.rfl,?_⟩
  rw [ltSl_iff,ltSl_iff]
  have hne:bytesOf a.Key≠bytesOf b.Key:=fun e=>hab (ba_toList_inj.1 (by rw [ByteArray.toList_eq,ByteArray.toList_eq]; exact e))
  rcases bs_tri (bytesOf a.Key) (bytesOf b.Key) with g | g | g
  ·rcases Int.lt_trichotomy a.Time.From b.Time.From with k | k | k
   ·exact .inr (.inl k)
   ·exact .inr (.inr ⟨k,g⟩)
   ·exact .inl (.inl k)
  ·exact absurd g hne
  ·rcases Int.lt_trichotomy a.Time.From b.Time.From with k | k | k
   ·exact .inr (.inl k)
   ·exact .inl (.inr ⟨k.symm,g⟩)
   ·exact .inl (.inl k)
 have h2:=fold_sorted ltSl (R:=fun a b=>ltSl a b=true) (fun a b c hab hbc=>by
  rw [ltSl_iff] at hab hbc ⊢
  rcases hab with hab | ⟨hab,hab'⟩ <;> rcases hbc with hbc | ⟨hbc,hbc'⟩
  ·exact .inl (by omega)
  ·exact .inl (by omega)
  ·exact .inl (by omega)
  ·exact .inr ⟨by omega,List.lt_trans hab' hbc'⟩) u [] List.Pairwise.nil (fun _ _ _ h=>by cases h) hpw
 have h3:(u.foldl (ins ltSl) []).Perm u:=by simpa using fold_perm ltSl u []
 refine ⟨_,?_,h3,h2⟩
 have e0:∀ (v:List TSlot) a b,m_slices_insertionSortCmpFunc_api_Slot__gleemake_Stream_RightSlots_1 v a b=isM m_gleemake_Stream_RightSlots_1 v a b:=fun _ _ _=>rfl
 unfold m_slices_SortFunc_api_Slot_api_Slot__gleemake_Stream_RightSlots_1 m_bits_Len m_bits_Len64
 rw [show IntKind.wrap .u64 (u.length:Int)=u.length by rw [IntKind.wrap_u64]; omega,if_pos (by omega)]
 simp only [Option.bind_some]
 unfold m_slices_pdqsortCmpFunc_api_Slot__gleemake_Stream_RightSlots_1
 have h4:∀ k,m_slices_pdqsortCmpFunc_api_Slot__gleemake_Stream_RightSlots_1_l1 u 0 (u.length:Int) k ()=some (.ret (u.foldl (ins ltSl) [])):=fun k=>by
  unfold m_slices_pdqsortCmpFunc_api_Slot__gleemake_Stream_RightSlots_1_l1
  rw [w64_id (by omega),decide_eq_true (by omega),ifB_true,e0,h1]; rfl
 rw [loopM_step (h4 _)]; rfl
theorem risF_parts {l:List ByteArray} (h:l=[]∨l=[altS]∨l=[basS]∨l=[altS,basS]):risF l=0∧l.length≤2:=by
 have e:∀ l:List ByteArray,m_gleeref2_Rising l=some 0→risF l=0:=fun l h=>by unfold risF; rw [h]; rfl
 rcases h with rfl | rfl | rfl | rfl
 ·exact ⟨e _ (by kernel_rfl),by simp⟩
 ·exact ⟨e _ (by kernel_rfl),by simp⟩
 ·exact ⟨e _ (by kernel_rfl),by simp⟩
 ·exact ⟨e _ (by kernel_rfl),by simp⟩
structure SlOK (l:List TSlot):Prop where
 len:l.length≤300
 sf:∀ (i:Nat) x,l[i]? = some x→sF l i x=0
 cf:∀ (i:Nat) x,l[i]? = some x→conf l i x=false
theorem SlOK.chk {l:List TSlot} (h:SlOK l):m_rehearse_CheckSlots l=some 0:=Slots_ok h.len h.sf h.cf
theorem SlOK.rise {l:List TSlot} (h:SlOK l):SlR l:=sl_rise h.len h.sf
theorem sl_right {l:List TSlot} (hl:l.length≤300) (hg:∀ x∈l,GdSl x) (hk:(l.map (·.Key)).Nodup) (ho:l.Pairwise fun a b=>ltSl a b=true) (hc:l.Pairwise fun a b=>a.Room=b.Room→a.Time.To≤b.Time.From∨b.Time.To≤a.Time.From):SlOK l:=by
 have htake:∀ (i:Nat) o,o∈l.take i→∃ j,j<i∧∃ h:j<l.length,l[j]=o:=by
  intro i o ho
  obtain ⟨j,hj,rfl⟩:=List.getElem_of_mem ho
  rw [List.length_take] at hj
  exact ⟨j,by omega,by omega,by rw [List.getElem_take]⟩
 have hkp:l.Pairwise fun a b=>a.Key≠b.Key:=by
  rw [List.nodup_iff_pairwise_ne,List.pairwise_map] at hk; exact hk
 refine ⟨hl,fun i x hx=>?_,fun i x hx=>?_⟩
 ·obtain ⟨hi,rfl⟩:=List.getElem?_eq_some_iff.1 hx
  have g:=hg l[i] (List.getElem_mem hi)
  unfold sF
  have hr:isKey l[i].Room=true:=by rcases g.room with e | e <;> rw [e] <;> kernel_rfl
  have hpi:isKey l[i].Piece=true:=by
   rcases g.piece with e | e <;> rw [e]
   ·exact gk_key.1
   ·exact gk_key.2.1
  have hany:(l.take i).any (fun o=>sameB o.Key l[i].Key)=false:=by
   refine List.any_eq_false.2 fun o ho2=>?_
   obtain ⟨j,hj,hjl,rfl⟩:=htake i o ho2
   have:=List.pairwise_iff_getElem.1 hkp j i hjl hi hj
   intro e
   exact this (sameB_iff.1 e)
  have hrp:=risF_parts g.parts
  rw [keyS_ok _ g.key,hr,hpi,hany,hrp.1,decide_eq_false (show ¬ l[i].Parts.length>12 by omega),isT_iff.2 ⟨g.time.1,g.time.2.1,by unfold EndI; have:=g.time.2.2; omega⟩]
  by_cases h0:i=0
  ·rw [if_pos h0]; rfl
  ·rw [if_neg h0,List.getElem?_eq_getElem (by omega)]
   have hlt:=ltSl_iff.1 (List.pairwise_iff_getElem.1 ho (i - 1) i (by omega) hi (by omega))
   have hos:ordS (l[i - 1]'(by omega)) l[i]=false:=by
    unfold ordS
    rcases hlt with h | ⟨h,h'⟩
    ·rw [decide_eq_false (by omega),decide_eq_false (show ¬ l[i].Time.From=(l[i - 1]'(by omega)).Time.From by omega)]; rfl
    ·rw [decide_eq_false (by omega),decide_eq_true h']; simp
   simp only
   rw [hos]; rfl
 ·obtain ⟨hi,rfl⟩:=List.getElem?_eq_some_iff.1 hx
  unfold conf
  refine List.any_eq_false.2 fun o ho2=>?_
  obtain ⟨j,hj,hjl,rfl⟩:=htake i o ho2
  have:=List.pairwise_iff_getElem.1 hc j i hjl hi hj
  intro e
  rw [Bool.and_eq_true,sameB_iff] at e
  have h2:=this e.1
  have h3:=e.2
  unfold meetB at h3
  rw [Bool.and_eq_true,decide_eq_true_eq,decide_eq_true_eq] at h3
  omega
theorem RightSlots_right (L:List Int) {p:Int} (n:Nat) (hn:n≤5) (hp:0≤p) (hp':p≤500000):∃ l q,m_gleemake_Stream_RightSlots L p (n:Int)=some (l,q)∧0≤q∧q≤p+20*n∧SlOK l∧l.length≤5∧∀ x∈l,GdSl x:=by
 unfold m_gleemake_Stream_RightSlots
 change ∃ l q,((sliceI keyS 0 (n:Int)).bind _)=some (l,q)∧_
 rw [sliceI_of (lo:=0) (a:=0) (b:=n) rfl rfl (Nat.zero_le _) (by unfold keyS; simpa using hn),Option.bind_some,List.drop_zero,Nat.sub_zero]
 obtain ⟨s,h1,h2⟩:=rangeM_invx (m_gleemake_Stream_RightSlots_l1 L) (keyS.take n) (SlJ p) (by
  intro i x s hx hI
  have hi:=(List.getElem?_eq_some_iff.1 hx).1
  rw [List.length_take] at hi
  rw [List.getElem?_take_of_lt (by omega)] at hx
  exact RSl_l1 L p hp hp' i (by omega) x hx s hI) (0,p,[],[]) ⟨⟨by simp,by simp⟩,⟨hp,by simp⟩,fun k=>⟨by simp [lkM],by simp [lkM]⟩,Nat.le_refl _,(fun _ h=>by cases h),List.Sublist.refl _,(fun _ h=>by cases h),List.Pairwise.nil⟩
 rw [h1,Option.bind_some,fin_brk]
 have hkl:keyS.length=5:=rfl
 have hll:(keyS.take n).length=n:=by rw [List.length_take,hkl]; omega
 rw [hll] at h2
 have hnd:(s.2.2.2.map (·.Key)).Nodup:=keyS_nd.sublist (h2.k.trans (List.take_sublist _ _))
 have hlen:=h2.l
 obtain ⟨m,g1,g2,g3⟩:=sortR s.2.2.2 (by omega) hnd
 rw [g1,Option.bind_some]
 have hpos:=h2.p
 unfold OKp at hpos
 have hml:=g2.length_eq
 refine ⟨m,s.2.1,rfl,hpos.1,by omega,sl_right (by omega) (fun x hx=>h2.g x (g2.subset hx)) ((g2.map _).nodup_iff.2 hnd) g3 ?_,by omega,fun x hx=>h2.g x (g2.subset hx)⟩
 have hc:s.2.2.2.Pairwise fun a b=>a.Room=b.Room→a.Time.To≤b.Time.From∨b.Time.To≤a.Time.From:=h2.c.imp fun hab e=>.inl (hab e)
 exact (g2.pairwise_iff (fun {a b} hab e=>(hab e.symm).symm)).2 hc
end Go.G
