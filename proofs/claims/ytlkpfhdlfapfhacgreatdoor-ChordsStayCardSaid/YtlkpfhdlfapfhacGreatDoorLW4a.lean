/- LW4a: follows, as they are drawn. In plain Lean, no program in sight. -/
import Derived.Test.YtlkpfhdlfapfhacGreatDoorLW3
import Derived.Test.YtlkpfhdlfapfhacGreatDoorLDo
import Derived.Test.YtlkpfhdlfapfhacGreatDoorLG1
namespace Go.G
open Go Go.J
set_option linter.unusedSimpArgs false
set_option linter.unusedVariables false
def ddGoF:TFollow→List TFollow→List TFollow
 | _,[]=>[]
 | p,y::t=>if y=p then ddGoF y t else y::ddGoF y t
def ddF:List TFollow→List TFollow
 | []=>[]
 | x::t=>x::ddGoF x t
theorem ddGo_snocF (x:TFollow):∀ (t:List TFollow) (p:TFollow),ddGoF p (t++[x])=if (p::t).getLast? = some x then ddGoF p t else ddGoF p t++[x]:=by
 intro t
 induction t with
 | nil =>
  intro p
  show (if x=p then ddGoF x [] else x::ddGoF x [])=_
  by_cases e:x=p
  ·subst e; simp [ddGoF]
  ·rw [if_neg e,if_neg (by simpa using fun g=>e g.symm)]; rfl
 | cons y t ih =>
  intro p
  show (if y=p then ddGoF y (t++[x]) else y::ddGoF y (t++[x]))=_
  rw [ih]
  have e1:(p::y::t).getLast? = (y::t).getLast?:=by simp [List.getLast?_cons]
  rw [e1]
  show _=if (y::t).getLast? = some x then (if y=p then ddGoF y t else y::ddGoF y t) else (if y=p then ddGoF y t else y::ddGoF y t)++[x]
  by_cases e:y=p <;> by_cases e2:(y::t).getLast? = some x
  ·rw [if_pos e,if_pos e2,if_pos e2,if_pos e]
  ·rw [if_pos e,if_neg e2,if_neg e2,if_pos e]
  ·rw [if_neg e,if_pos e2,if_pos e2,if_neg e]
  ·rw [if_neg e,if_neg e2,if_neg e2,if_neg e]; rfl
theorem dd_snocF (l:List TFollow) (x:TFollow):ddF (l++[x])=if l.getLast? = some x then ddF l else ddF l++[x]:=by
 cases l with
 | nil=>simp [ddF,ddGoF]
 | cons p t =>
  show p::ddGoF p (t++[x])=_
  rw [ddGo_snocF]
  by_cases e:(p::t).getLast? = some x
  ·rw [if_pos e,if_pos e]; rfl
  ·rw [if_neg e,if_neg e]; rfl
theorem take_lastF (l:List TFollow) (k:Nat) (hk:0<k) (h:k≤l.length):(l.take k).getLast? = some (l[k - 1]'(by omega)):=by
 rw [List.getLast?_eq_getElem?,List.length_take,Nat.min_eq_left h,List.getElem?_take_of_lt (by omega),List.getElem?_eq_getElem]
theorem dd_takeF (l:List TFollow) (k:Nat) (hk:0<k) (h:k<l.length):ddF (l.take (k+1))=if l[k - 1]'(by omega)=l[k] then ddF (l.take k) else ddF (l.take k)++[l[k]]:=by
 rw [List.take_add_one,List.getElem?_eq_getElem h]
 show ddF (l.take k++[l[k]])=_
 rw [dd_snocF,take_lastF l k hk (by omega)]
 by_cases e:l[k - 1]'(by omega)=l[k]
 ·rw [if_pos e,if_pos (by rw [e])]
 ·rw [if_neg e,if_neg (fun g=>e (Option.some.inj g))]
theorem dd_subF:∀ (l:List TFollow),(ddF l).Sublist l:=by
 have key:∀ (t:List TFollow) (p:TFollow),(ddGoF p t).Sublist t:=by
  intro t
  induction t with
  | nil=>intro p; exact List.Sublist.refl _
  | cons y t ih =>
   intro p
   unfold ddGoF
   split
   ·exact (ih y).cons y
   ·exact (ih y).cons_cons y
 intro l
 cases l with
 | nil=>exact List.Sublist.refl _
 | cons x t=>exact (key t x).cons_cons x
theorem compact_l2F (l:List TFollow) (hl:l.length≤1000000) (k:Nat) (hk:1≤k) (hkl:k<l.length) (h1:ddF (l.take (k+1))=l.take k) :
  ∃ (kk:Nat) (s:List TFollow),loopM (m_slices_Compact_api_Follow_api_Follow_l2 l k) ((k:Int),1,l)=some (.brk ((kk:Int),((l.length - k:Nat):Int),s))∧kk≤l.length∧s.length=l.length∧s.take kk=ddF l:=by
 obtain ⟨f,h2,h3⟩:=loopM_post (m_slices_Compact_api_Follow_api_Follow_l2 l k)
  (fun u=>∃ kk j:Nat,∃ s:List TFollow,u=((kk:Int),(j:Int),s)∧1≤j∧k+j≤l.length∧k≤kk∧kk+1≤k+j∧s.length=l.length∧s.take kk=ddF (l.take (k+j))∧∀ i,k+j≤i+1→s[i]? = l[i]?)
  (fun u=>l.length - u.2.1.toNat)
  (fun f=>match f with | .brk u=>∃ (kk:Nat) (s:List TFollow),u=((kk:Int),((l.length - k:Nat):Int),s)∧kk≤l.length∧s.length=l.length∧s.take kk=ddF l | _=>False) (by
   rintro u ⟨kk,j,s,rfl,hj,hjl,hkk,hkj,hs,ht,hi⟩
   unfold m_slices_Compact_api_Follow_api_Follow_l2
   simp only
   rw [sliceI_of (lo:=(k:Int)) (a:=k) (b:=l.length) rfl rfl (by omega) (by omega),Option.bind_some]
   have hq:((s.drop k).take (l.length - k))=s.drop k:=List.take_of_length_le (by rw [List.length_drop]; omega)
   rw [hq,List.length_drop,hs]
   by_cases hlt:j<l.length - k
   ·have hkj2:k+j<l.length:=by omega
    have g1:(s.drop k)[j]? = some l[k+j]:=by rw [List.getElem?_drop,hi (k+j) (by omega),List.getElem?_eq_getElem hkj2]
    have g2:(s.drop k)[j - 1]? = some (l[k+j - 1]'(by omega)):=by
     rw [List.getElem?_drop,show k+(j - 1)=k+j - 1 by omega,hi (k+j - 1) (by omega),List.getElem?_eq_getElem (by omega)]
    rw [decide_eq_true (by omega),ifB_true,getI_of rfl g1,Option.bind_some,w64_id (by omega),getI_of (n:=j - 1) (by omega) g2,Option.bind_some]
    have hd:=dd_takeF l (k+j) (by omega) hkj2
    by_cases e:l[k+j]=l[k+j - 1]'(by omega)
    ·rw [decide_eq_true e,Bool.not_true,ifB_false,w64_id (by omega)]
     rw [if_pos e.symm] at hd
     left
     exact ⟨_,rfl,⟨kk,j+1,s,rfl,by omega,by omega,hkk,by omega,hs,by rw [ht,← hd]; rfl,fun i hh=>hi i (by omega)⟩,by simp only; omega⟩
    ·rw [decide_eq_false e,Bool.not_false,ifB_true,Option.bind_some]
     rw [if_neg (fun g=>e g.symm)] at hd
     have hkn:kk<s.length:=by omega
     rw [getI_of rfl (List.getElem?_eq_getElem hkn),Option.bind_some,w64_id (by omega),w64_id (by omega)]
     left
     have e2:((kk:Int)).toNat=kk:=by omega
     rw [e2]
     refine ⟨_,rfl,⟨kk+1,j+1,s.set kk l[k+j],rfl,by omega,by omega,by omega,by omega,by rw [List.length_set]; exact hs,?_,fun i hh=>?_⟩,by simp only; omega⟩
     ·rw [List.take_add_one,List.getElem?_set_self hkn,List.take_set_of_le (Nat.le_refl _),ht]
      rw [show k+(j+1)=k+j+1 by omega,hd]; rfl
     ·rw [List.getElem?_set_ne (by omega)]
      exact hi i (by omega)
   ·right; left
    rw [decide_eq_false (by omega),ifB_false]
    have hjk:j=l.length - k:=by omega
    refine ⟨_,rfl,kk,s,by rw [hjk],by omega,hs,?_⟩
    rw [ht,show k+j=l.length by omega,List.take_length]) ((k:Int),1,l) ⟨k,1,l,rfl,by omega,by omega,Nat.le_refl _,Nat.le_refl _,rfl,h1.symm,fun i _=>rfl⟩
 match f,h3 with
 | .brk u,h3 =>
  obtain ⟨kk,s,rfl,g1,g2,g3⟩:=h3
  exact ⟨kk,s,h2,g1,g2,g3⟩
theorem Compact_specF (l:List TFollow) (hl:l.length≤1000000):m_slices_Compact_api_Follow_api_Follow l=some (ddF l):=by
 unfold m_slices_Compact_api_Follow_api_Follow
 by_cases h2:(l.length:Int)<2
 ·rw [decide_eq_true h2,ifB_true]
  congr 1
  match l,h2 with
  | [],_=>rfl
  | [x],_=>rfl
  | _::_::_,h2=>simp at h2; omega
 ·rw [decide_eq_false h2,ifB_false]
  obtain ⟨f,h3,h4⟩:=loopM_post (m_slices_Compact_api_Follow_api_Follow_l1 l)
   (fun u=>∃ k:Nat,u=(k:Int)∧1≤k∧k≤l.length∧ddF (l.take k)=l.take k)
   (fun u=>l.length - u.toNat)
   (fun f=>match f with | .brk _=>ddF l=l | .ret v=>v=ddF l | _=>False) (by
    rintro u ⟨k,rfl,hk,hkl,hd⟩
    unfold m_slices_Compact_api_Follow_api_Follow_l1
    by_cases hlt:k<l.length
    ·rw [decide_eq_true (by omega),ifB_true,getI_of rfl (List.getElem?_eq_getElem hlt),Option.bind_some,w64_id (by omega),getI_of (n:=k - 1) (by omega) (List.getElem?_eq_getElem (by omega)),Option.bind_some]
     have hd1:=dd_takeF l k (by omega) hlt
     by_cases e:l[k]=l[k - 1]'(by omega)
     ·rw [if_pos e.symm,hd] at hd1
      rw [decide_eq_true e,ifB_true,sliceI_of (lo:=(k:Int)) (a:=k) (b:=l.length) rfl rfl (by omega) (by omega),Option.bind_some]
      obtain ⟨kk,s,g1,g2,g3,g4⟩:=compact_l2F l hl k hk hlt hd1
      rw [g1,Option.bind_some,fin_brk]
      simp only
      rw [sliceI_of (lo:=(kk:Int)) (a:=kk) (b:=s.length) rfl rfl (by omega) (by omega),Option.bind_some]
      have hc:(clearM (TFollow.mk 0 0 0) s (kk:Int))=s.take kk++List.replicate (s.length - kk) (TFollow.mk 0 0 0):=by
       unfold clearM
       rw [show ((kk:Int)).toNat=kk by omega]
      have hcl:(clearM (TFollow.mk 0 0 0) s (kk:Int)).length=l.length:=by rw [hc,List.length_append,List.length_take,List.length_replicate]; omega
      rw [sliceI_of (lo:=0) (a:=0) (b:=kk) rfl rfl (Nat.zero_le _) (by omega),Option.bind_some]
      right; right
      refine ⟨_,rfl,?_⟩
      rw [List.drop_zero,Nat.sub_zero,hc,List.take_append_of_le_length (by rw [List.length_take]; omega),List.take_take,Nat.min_self,g4]
     ·rw [if_neg (fun g=>e g.symm),hd] at hd1
      rw [decide_eq_false e,ifB_false,w64_id (by omega)]
      left
      refine ⟨_,rfl,⟨k+1,rfl,by omega,by omega,?_⟩,by omega⟩
      rw [hd1,List.take_add_one,List.getElem?_eq_getElem hlt]; rfl
    ·rw [decide_eq_false (by omega),ifB_false]
     right; left
     refine ⟨_,rfl,?_⟩
     have hk2:k=l.length:=by omega
     rw [hk2,List.take_length] at hd
     exact hd) 1 ⟨1,rfl,Nat.le_refl _,by omega,by
      match l,h2 with
      | [],h2=>simp at h2
      | x::t,_=>rfl⟩
  rw [h3,Option.bind_some]
  match f,h4 with
  | .brk u,h4=>rw [fin_brk,show ddF l=l from h4]
  | .ret v,h4=>rw [fin_ret,show v=ddF l from h4]
theorem Cmp3_total (a x:TFollow):∃ z,m_gleemake_Stream_Follows_1 a x=some z:=by
 obtain ⟨z,hz,-⟩:=Compare3 a x
 exact ⟨z,by unfold m_gleemake_Stream_Follows_1; rw [hz]; rfl⟩
theorem sortF12 (u:List TFollow) (h:u.length≤12):∃ m,m_slices_SortFunc_api_Follow_api_Follow__gleemake_Stream_Follows_1 u=some m∧m.Perm u:=by
 obtain ⟨m,h1,h2⟩:=isM_total m_gleemake_Stream_Follows_1 u (by omega) fun x _ y _=>Cmp3_total x y
 refine ⟨m,?_,h2⟩
 have e0:∀ (v:List TFollow) a b,m_slices_insertionSortCmpFunc_api_Follow__gleemake_Stream_Follows_1 v a b=isM m_gleemake_Stream_Follows_1 v a b:=fun _ _ _=>rfl
 unfold m_slices_SortFunc_api_Follow_api_Follow__gleemake_Stream_Follows_1 m_bits_Len m_bits_Len64
 rw [show IntKind.wrap .u64 (u.length:Int)=u.length by rw [IntKind.wrap_u64]; omega,if_pos (by omega)]
 simp only [Option.bind_some]
 unfold m_slices_pdqsortCmpFunc_api_Follow__gleemake_Stream_Follows_1
 have h3:∀ k,m_slices_pdqsortCmpFunc_api_Follow__gleemake_Stream_Follows_1_l1 u 0 (u.length:Int) k ()=some (.ret m):=fun k=>by
  unfold m_slices_pdqsortCmpFunc_api_Follow__gleemake_Stream_Follows_1_l1
  rw [w64_id (by omega),decide_eq_true (by omega),ifB_true,e0,h1]; rfl
 rw [loopM_step (h3 _)]; rfl
theorem Follows_spec (L:List Int) {p:Int} (hp:0≤p) (hp':p≤1000000):∃ f q,m_gleemake_Stream_Follows L p=some (f,q)∧0≤q∧q≤p+1000∧f.length≤8:=by
 unfold m_gleemake_Stream_Follows
 obtain ⟨n,h1,n0,n1⟩:=Range_spec L (p:=p) (a:=0) (b:=8) hp (by omega) (by omega) (by omega) (by omega)
 rw [h1,Option.bind_some]
 simp only
 rw [rangeI_of (by omega),Option.bind_some]
 obtain ⟨⟨q,u⟩,h2,h3⟩:=rangeM_invx (m_gleemake_Stream_Follows_l1 L) (List.range n.toNat) (fun i (s:Int × List TFollow)=>s.1=p+1+3*i∧s.2.length=i) (by
  rintro i x ⟨q,u⟩ hx ⟨rfl,hu⟩
  have hi:=(List.getElem?_eq_some_iff.1 hx).1
  rw [List.length_range] at hi
  simp only at hu
  unfold m_gleemake_Stream_Follows_l1
  simp only
  obtain ⟨a,e1,-⟩:=Pick_spec L (p:=p+1+3*(i:Int)) [1,1,2,5] (by omega) (by omega) (by simp) (by simp)
  rw [e1,Option.bind_some]
  obtain ⟨b,e2,-⟩:=Pick_spec L (p:=p+1+3*(i:Int)+1) [1,1,2,5] (by omega) (by omega) (by simp) (by simp)
  rw [e2,Option.bind_some]
  obtain ⟨c,e3,-⟩:=Pick_spec L (p:=p+1+3*(i:Int)+1+1) [5,7,7,9,2,0] (by omega) (by omega) (by simp) (by simp)
  rw [e3,Option.bind_some,appM_of (by simp; omega) (by omega)]
  exact ⟨_,rfl,by show _=p+1+3*((i+1:Nat):Int); simp only; omega,by simp [hu]⟩) (p+1,[]) ⟨by simp,rfl⟩
 rw [h2,Option.bind_some,fin_brk]
 rw [List.length_range] at h3
 obtain ⟨hq,hu⟩:=h3
 simp only at hq hu ⊢
 obtain ⟨m,h4,h5⟩:=sortF12 u (by omega)
 rw [h4,Option.bind_some,Compact_specF m (by have:=h5.length_eq; omega),Option.bind_some]
 have hd:(ddF m).length≤8:=by
  have:=(dd_subF m).length_le
  have:=h5.length_eq
  omega
 generalize ddF m=y at hd
 have key:∃ (c:Bool) (q':Int),0≤q'∧q'≤p+100∧(c=true→0<y.length)∧(ifB (decide ((y.length:Int)>0)) ((m_gleemake_Stream_Flip L q 12).bind fun y27=>some (.inl (y27.1,y27.2))) (some (.inl (false,q))):Option ((Bool × Int) ⊕ ((List TFollow) × Int)))=some (.inl (c,q')):=by
  by_cases h:(y.length:Int)>0
  ·obtain ⟨c,e⟩:=Flip_spec L (p:=q) (n:=12) (by omega) (by omega) (by omega)
   exact ⟨c,q+1,by omega,by omega,fun _=>by omega,by rw [decide_eq_true h,ifB_true,e]; rfl⟩
  ·exact ⟨false,q,by omega,by omega,fun h=>(by cases h),by rw [decide_eq_false h]; rfl⟩
 obtain ⟨c,q',k0,k1,k2,k3⟩:=key
 rw [k3,Option.bind_some,fin_inl]
 simp only
 cases c with
 | false=>exact ⟨y,q',rfl,k0,by omega,hd⟩
 | true =>
  have hy:=k2 rfl
  obtain ⟨r,e1,r0,r1⟩:=Next_spec L (p:=q') (n:=(y.length:Int)) k0 (by omega) (by omega)
  have r1:=r1 (by omega)
  rw [ifB_true,e1,Option.bind_some]
  simp only
  obtain ⟨v1,q1,e2,rfl⟩:=Odd_spec L (p:=q'+1) (a:=1) (b:=7) (by omega) (by omega) (by omega) (by omega) (by omega)
  rw [e2,Option.bind_some]
  simp only
  obtain ⟨v2,q2,e3,rfl⟩:=Odd_spec L (p:=q'+1+2) (a:=1) (b:=7) (by omega) (by omega) (by omega) (by omega) (by omega)
  rw [e3,Option.bind_some]
  simp only
  obtain ⟨v3,q3,e4,rfl⟩:=Odd_spec L (p:=q'+1+2+2) (a:=0) (b:=11) (by omega) (by omega) (by omega) (by omega) (by omega)
  rw [e4,Option.bind_some]
  simp only
  obtain ⟨rm,rfl⟩:∃ rm:Nat,r=rm:=⟨r.toNat,by omega⟩
  rw [getI_of rfl (List.getElem?_eq_getElem (show rm<y.length by omega)),Option.bind_some]
  exact ⟨_,_,rfl,by omega,by omega,by rw [List.length_set]; exact hd⟩
end Go.G
