/- LU3: tones in bars, as they are played, joined, and their range, in plain Lean. No program in sight. -/
import Derived.Test.YtlkpfhdlfapfhaaGreatDoorLU2
namespace Go.G
open Go Go.J
set_option linter.unusedSimpArgs false
theorem sumU_nonneg {t:List TTone} (h:∀ x∈t,TGood x):0≤sumU t:=by
 induction t with
 | nil=>simp [sumU]
 | cons x t ih =>
  have h1:=(units_spec (h x (List.mem_cons_self ..))).2.2.1
  have h2:=ih fun y hy=>h y (List.mem_cons_of_mem _ hy)
  show 0≤uT x+sumU t
  omega
theorem inBars_inner (T:List TTone) (out:List (List TTone)) (rest:List TTone) (hT:T.length≤2000):∀ (suf pre:List TTone),T=pre++suf++rest→(∀ x∈suf,TGood x)→sumU suf≤4000→loopM (m_piece_inBars_l2 (T,out)) ((pre.length:Int),sumU suf)=some (.brk (((pre.length+suf.length:Nat):Int),0))
 | [],pre,h,_,_=>by
  have e:m_piece_inBars_l2 (T,out) ((pre.length:Int),sumU [])=some (.brk ((pre.length:Int),0)):=rfl
  rw [loopM_step e]; rfl
 | x::suf,pre,h,hg,hs=>by
  obtain ⟨u1,u2,u3,u4⟩:=units_spec (hg x (List.mem_cons_self ..))
  have hnn:=sumU_nonneg (fun y hy=>hg y (List.mem_cons_of_mem _ hy):∀ y∈suf,TGood y)
  have hx:T[pre.length]? = some x:=by rw [h]; simp
  have hlt:pre.length<T.length:=(List.getElem?_eq_some_iff.1 hx).1
  have hsum:sumU (x::suf)=uT x+sumU suf:=rfl
  have e:m_piece_inBars_l2 (T,out) ((pre.length:Int),sumU (x::suf))=some (.nxt (((pre++[x]).length:Int),sumU suf)):=by
   unfold m_piece_inBars_l2
   rw [hsum,decide_eq_true (by omega),ifB_true]
   simp only [getI_of (n:=pre.length) rfl hx,Option.bind_some,u1]
   rw [w64_id (by omega),w64_id (by omega)]
   have e1:(pre.length:Int)+1=((pre++[x]).length:Int):=by simp
   have e2:uT x+sumU suf - uT x=sumU suf:=by omega
   rw [e1,e2]
  have ih:=inBars_inner T out rest hT suf (pre++[x]) (by rw [h]; simp) (fun y hy=>hg y (List.mem_cons_of_mem _ hy)) (by omega)
  rw [loopM_step e,run_nxt,ih]
  congr 3
  simp; omega
theorem inBars_spec:∀ (bs:List TBar) (gs out:List (List TTone)) (i:Nat),(∀ x∈bs,bad x=false)→gs.map sumU=bs.map lB→(∀ x∈List.flatten gs,TGood x)→(List.flatten gs).length≤2000→out.length+bs.length≤1000 →
  rangeM m_piece_inBars_l1 i bs (List.flatten gs,out)=some (.brk ([],out++gs))
 | [],gs,out,i,_,h,_,_,_=>by
  obtain rfl:gs=[]:=by simpa using h
  simp
 | b::bs,gs,out,i,hb,h,hg,hl,ho=>by
  obtain ⟨l1,l2,l3,l4⟩:=long_spec (hb b (List.mem_cons_self ..))
  cases gs with
  | nil=>cases h
  | cons g gs =>
   simp only [List.map_cons,List.cons.injEq] at h
   obtain ⟨h1,h2⟩:=h
   rw [List.flatten_cons] at hg hl ⊢
   simp only [List.length_append] at hl
   simp only [List.length_cons] at ho
   have hin:=inBars_inner (g++List.flatten gs) out (List.flatten gs) (by rw [List.length_append]; omega) g [] (by simp) (fun x hx=>hg x (List.mem_append_left _ hx)) (by omega)
   rw [h1] at hin
   simp only [List.length_nil,Nat.zero_add] at hin
   have e:m_piece_inBars_l1 i b (g++List.flatten gs,out)=some (.nxt (List.flatten gs,out++[g])):=by
    unfold m_piece_inBars_l1 m_slices_Clone_api_Tone_api_Tone
    simp only [l1,Option.bind_some]
    rw [show ((0:Int),lB b)=(((0:Nat):Int),lB b) from rfl,hin]
    simp only [Option.bind_some,fin_brk]
    rw [sliceI_of (lo:=0) (hi:=(g.length:Int)) (a:=0) (b:=g.length) rfl rfl (Nat.zero_le _) (by simp),Option.bind_some]
    have e1:((g++List.flatten gs).drop 0).take (g.length - 0)=g:=by simp
    rw [e1,appM_of (by simp; omega) (by omega)]
    simp only [Option.bind_some,List.nil_append]
    rw [appM_of (by simp; omega) (by omega),Option.bind_some,sliceI_of (a:=g.length) (b:=(g++List.flatten gs).length) rfl rfl (by simp) (Nat.le_refl _),Option.bind_some]
    have e2:((g++List.flatten gs).drop g.length).take ((g++List.flatten gs).length - g.length)=List.flatten gs:=by rw [List.drop_left,List.length_append,Nat.add_sub_cancel_left,List.take_length]
    rw [e2]
   rw [rangeM_cons,e,Option.bind_some,run_nxt,inBars_spec bs gs (out++[g]) (i+1) (fun x hx=>hb x (List.mem_cons_of_mem _ hx)) h2 (fun x hx=>hg x (List.mem_append_right _ hx)) (by omega) (by simp; omega)]
   simp
theorem inBarsOf_inner (T:List TTone) (out:List (List TTone)) (rest:List TTone) (hT:T.length≤2000):∀ (suf pre:List TTone),T=pre++suf++rest→(∀ x∈suf,TGood x)→sumU suf≤4000→loopM (m_gleeref2_InBarsOf_l2 (T,out)) ((pre.length:Int),sumU suf)=some (.brk (((pre.length+suf.length:Nat):Int),0))
 | [],pre,h,_,_=>by
  have e:m_gleeref2_InBarsOf_l2 (T,out) ((pre.length:Int),sumU [])=some (.brk ((pre.length:Int),0)):=rfl
  rw [loopM_step e]; rfl
 | x::suf,pre,h,hg,hs=>by
  obtain ⟨u1,u2,u3,u4⟩:=units_spec (hg x (List.mem_cons_self ..))
  have hnn:=sumU_nonneg (fun y hy=>hg y (List.mem_cons_of_mem _ hy):∀ y∈suf,TGood y)
  have hx:T[pre.length]? = some x:=by rw [h]; simp
  have hlt:pre.length<T.length:=(List.getElem?_eq_some_iff.1 hx).1
  have hsum:sumU (x::suf)=uT x+sumU suf:=rfl
  have e:m_gleeref2_InBarsOf_l2 (T,out) ((pre.length:Int),sumU (x::suf))=some (.nxt (((pre++[x]).length:Int),sumU suf)):=by
   unfold m_gleeref2_InBarsOf_l2
   rw [hsum,decide_eq_true (by omega),ifB_true]
   simp only [getI_of (n:=pre.length) rfl hx,Option.bind_some,u2]
   rw [w64_id (by omega),w64_id (by omega)]
   have e1:(pre.length:Int)+1=((pre++[x]).length:Int):=by simp
   have e2:uT x+sumU suf - uT x=sumU suf:=by omega
   rw [e1,e2]
  have ih:=inBarsOf_inner T out rest hT suf (pre++[x]) (by rw [h]; simp) (fun y hy=>hg y (List.mem_cons_of_mem _ hy)) (by omega)
  rw [loopM_step e,run_nxt,ih]
  congr 3
  simp; omega
theorem inBarsOf_spec:∀ (bs:List TBar) (gs out:List (List TTone)) (i:Nat),(∀ x∈bs,bad x=false)→gs.map sumU=bs.map lB→(∀ x∈List.flatten gs,TGood x)→(List.flatten gs).length≤2000→out.length+bs.length≤1000 →
  rangeM m_gleeref2_InBarsOf_l1 i bs (List.flatten gs,out)=some (.brk ([],out++gs))
 | [],gs,out,i,_,h,_,_,_=>by
  obtain rfl:gs=[]:=by simpa using h
  simp
 | b::bs,gs,out,i,hb,h,hg,hl,ho=>by
  obtain ⟨l1,l2,l3,l4⟩:=long_spec (hb b (List.mem_cons_self ..))
  cases gs with
  | nil=>cases h
  | cons g gs =>
   simp only [List.map_cons,List.cons.injEq] at h
   obtain ⟨h1,h2⟩:=h
   rw [List.flatten_cons] at hg hl ⊢
   simp only [List.length_append] at hl
   simp only [List.length_cons] at ho
   have hin:=inBarsOf_inner (g++List.flatten gs) out (List.flatten gs) (by rw [List.length_append]; omega) g [] (by simp) (fun x hx=>hg x (List.mem_append_left _ hx)) (by omega)
   rw [h1] at hin
   simp only [List.length_nil,Nat.zero_add] at hin
   have e:m_gleeref2_InBarsOf_l1 i b (g++List.flatten gs,out)=some (.nxt (List.flatten gs,out++[g])):=by
    unfold m_gleeref2_InBarsOf_l1 m_slices_Clone_api_Tone_api_Tone
    simp only [l2,Option.bind_some]
    rw [show ((0:Int),lB b)=(((0:Nat):Int),lB b) from rfl,hin]
    simp only [Option.bind_some,fin_brk]
    rw [sliceI_of (lo:=0) (hi:=(g.length:Int)) (a:=0) (b:=g.length) rfl rfl (Nat.zero_le _) (by simp),Option.bind_some]
    have e1:((g++List.flatten gs).drop 0).take (g.length - 0)=g:=by simp
    rw [e1,appM_of (by simp; omega) (by omega)]
    simp only [Option.bind_some,List.nil_append]
    rw [appM_of (by simp; omega) (by omega),Option.bind_some,sliceI_of (a:=g.length) (b:=(g++List.flatten gs).length) rfl rfl (by simp) (Nat.le_refl _),Option.bind_some]
    have e2:((g++List.flatten gs).drop g.length).take ((g++List.flatten gs).length - g.length)=List.flatten gs:=by rw [List.drop_left,List.length_append,Nat.add_sub_cancel_left,List.take_length]
    rw [e2]
   rw [rangeM_cons,e,Option.bind_some,run_nxt,inBarsOf_spec bs gs (out++[g]) (i+1) (fun x hx=>hb x (List.mem_cons_of_mem _ hx)) h2 (fun x hx=>hg x (List.mem_append_right _ hx)) (by omega) (by simp; omega)]
   simp
theorem inBars_eq {bs:List TBar} {t:List TTone} {last:Bool} (hb:∀ x∈bs,bad x=false) (hl:bs.length≤600) (h:Fills bs t last) :
  ∃ gs,m_piece_inBars bs t=some gs∧m_gleeref2_InBarsOf bs t=some gs∧t=List.flatten gs∧gs.map sumU=bs.map lB:=by
 obtain ⟨gs,h1,h2⟩:=h.seg
 refine ⟨gs,?_,?_,h1,h2⟩
 ·unfold m_piece_inBars
  have h3:=h.good
  have h4:=h.len
  rw [h1] at h3 h4 ⊢
  rw [inBars_spec bs gs [] 0 hb h2 h3 h4 (by simp; omega)]; simp
 ·unfold m_gleeref2_InBarsOf
  have h3:=h.good
  have h4:=h.len
  rw [h1] at h3 h4 ⊢
  rw [inBarsOf_spec bs gs [] 0 hb h2 h3 h4 (by simp; omega)]; simp
theorem loosened_eq:m_piece_loosened_l1=m_gleeref2_untied_l1:=by
 funext i x u
 unfold m_piece_loosened_l1 m_gleeref2_untied_l1
 simp only [(carries_spec _ _).1,(carries_spec _ _).2,Option.bind_some]
theorem set_texts {s:List TTone} {i:Nat} (hi:i<s.length) {y:TTone} (hy:y.Text=s[i].Text):(s.set i y).map (·.Text)=s.map (·.Text):=by
 rw [List.map_set,hy]
 have:s[i].Text=(s.map (·.Text))[i]'(by simpa using hi):=by simp
 rw [this,List.set_getElem_self]
theorem loosened_spec (t:List TTone) (hl:t.length≤100000000):∃ u,m_piece_loosened t=some (u,u)∧m_gleeref2_untied t=some (u,u)∧u.length=t.length∧u.map (·.Text)=t.map (·.Text):=by
 obtain ⟨u,h1,h2⟩:=rangeM_invx m_gleeref2_untied_l1 t (fun _ s=>s.length=t.length∧s.map (·.Text)=t.map (·.Text)) (by
  rintro i x s hx ⟨hs,hm⟩
  have hi:i<s.length:=by rw [hs]; exact (List.getElem?_eq_some_iff.1 hx).1
  have hg:getI s (i:Int)=some s[i]:=getI_of (n:=i) rfl (List.getElem?_eq_getElem hi)
  unfold m_gleeref2_untied_l1
  rw [w64_id (n:=(s.length:Int) - 1) (by omega),w64_id (n:=(i:Int)+1) (by omega)]
  by_cases he:i+1=s.length
  ·have e1:((i:Int)==(s.length:Int) - 1)=true:=by simp; omega
   simp only [e1,ifB_true,hg,Option.bind_some]
   exact ⟨_,rfl,by simp [hs],(set_texts (i:=i) hi (y:=⟨s[i].Note,s[i].Long,s[i].Text,false⟩) rfl).trans hm⟩
  ·have e1:((i:Int)==(s.length:Int) - 1)=false:=by simp; omega
   have hg2:getI s ((i:Int)+1)=some s[i+1]:=getI_of (n:=i+1) (by omega) (List.getElem?_eq_getElem (by omega))
   simp only [e1,ifB_false,hg,hg2,Option.bind_some,(carries_spec _ _).2]
   cases carryB s[i] s[i+1]
   ·exact ⟨_,rfl,by simp [hs],(set_texts (i:=i) hi (y:=⟨s[i].Note,s[i].Long,s[i].Text,false⟩) rfl).trans hm⟩
   ·exact ⟨_,rfl,hs,hm⟩) t ⟨rfl,rfl⟩
 refine ⟨u,?_,?_,h2⟩
 ·unfold m_piece_loosened
  rw [loosened_eq,h1]; rfl
 ·unfold m_gleeref2_untied
  rw [h1]; rfl
theorem played_eq {bs:List TBar} {t:List TTone} (hc:cB bs=0) (h:Fills bs t false) :
  ∃ p,m_piece_playedTones bs t=some p∧m_gleeref2_PlayedOf bs t=some p∧p.length≤4000000∧∀ B:Nat,(∀ x∈t,x.Text.size≤B)→∀ x∈p,x.Text.size≤B:=by
 obtain ⟨hl,r,hg,-,-,ho⟩:=cB_zero hc
 obtain ⟨gs,g1,g2,g3,g4⟩:=inBars_eq (goB_all bs _ r hg) (by omega) h
 have hgl:gs.length=bs.length:=by have:=congrArg List.length g4; simpa using this
 have hmem:=expand_mem bs (gsB none 0 bs)
 have hgm:∀ g∈gs,g.length≤2000:=fun g hgs=>by
  have:=h.len
  rw [g3] at this
  have h2:=List.length_flatten (L:=gs)
  have h3:g.length≤(gs.map List.length).sum:=by
   clear g1 g2 g3 g4 hgl h2 this
   induction gs with
   | nil=>cases hgs
   | cons a l ih =>
    rcases List.mem_cons.1 hgs with rfl | h4
    ·simp
    ·have:=ih h4; simp; omega
  omega
 have key:∀ (ord:List Int) (i:Nat) (acc:List TTone),(∀ k∈ord,∃ j:Nat,k=j∧∃ x,bs[j]? = some x)→acc.length+2000*ord.length≤4000000 →
   ∃ p,rangeM (m_piece_playedTones_l1 gs) i ord acc=some (.brk p)∧rangeM (m_gleeref2_PlayedOf_l1 gs) i ord acc=some (.brk p)∧p.length≤4000000∧∀ B:Nat,(∀ x∈t,x.Text.size≤B)→(∀ x∈acc,x.Text.size≤B)→∀ x∈p,x.Text.size≤B:=by
  intro ord
  induction ord with
  | nil=>intro i acc _ ha; exact ⟨acc,rfl,rfl,by simpa using ha,fun _ _ h=>h⟩
  | cons k ord ih =>
   intro i acc hm ha
   obtain ⟨j,rfl,x,hx⟩:=hm k (List.mem_cons_self ..)
   have hj:j<gs.length:=by rw [hgl]; exact (List.getElem?_eq_some_iff.1 hx).1
   have hget:getI gs (j:Int)=some gs[j]:=getI_of (n:=j) rfl (List.getElem?_eq_getElem hj)
   have hlen:=hgm gs[j] (List.getElem_mem hj)
   simp only [List.length_cons] at ha
   have e1:m_piece_playedTones_l1 gs i (j:Int) acc=some (.nxt (acc++gs[j])):=by
    unfold m_piece_playedTones_l1
    rw [hget,Option.bind_some,appM_of (by omega) (by omega)]; rfl
   have e2:m_gleeref2_PlayedOf_l1 gs i (j:Int) acc=some (.nxt (acc++gs[j])):=by
    unfold m_gleeref2_PlayedOf_l1
    rw [hget,Option.bind_some,appM_of (by omega) (by omega)]; rfl
   obtain ⟨p,p1,p2,p3⟩:=ih (i+1) (acc++gs[j]) (fun q hq=>hm q (List.mem_cons_of_mem _ hq)) (by simp; omega)
   refine ⟨p,by rw [rangeM_cons,e1]; exact p1,by rw [rangeM_cons,e2]; exact p2,p3.1,fun B hB ha=>p3.2 B hB fun x hx=>?_⟩
   rcases List.mem_append.1 hx with h1 | h1
   ·exact ha x h1
   ·exact hB x (by rw [g3]; exact List.mem_flatten.2 ⟨_,List.getElem_mem hj,h1⟩)
 obtain ⟨p,p1,p2,p3,p4⟩:=key (expand bs (gsB none 0 bs)) 0 [] hmem (by simp; omega)
 obtain ⟨u,u1,u2,u3,u4⟩:=loosened_spec p (by omega)
 refine ⟨u,?_,?_,by omega,fun B hB x hx=>?_⟩
 ·unfold m_piece_playedTones
  rw [g1,Option.bind_some,played_spec hc,Option.bind_some,p1,Option.bind_some,fin_brk,u1]; rfl
 ·unfold m_gleeref2_PlayedOf
  rw [g2,Option.bind_some,(Order_spec hc).2,Option.bind_some,p2,Option.bind_some,fin_brk,u2]; rfl
 ·have hx':x.Text∈p.map (·.Text):=by rw [← u4]; exact List.mem_map_of_mem hx
  obtain ⟨y,hy,e⟩:=List.mem_map.1 hx'
  rw [← e]
  exact p4 B hB (fun z hz=>by cases hz) y hy
end Go.G
