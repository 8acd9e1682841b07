/- LTE: the law of the played bars holds of its model, in plain Lean. No program in sight. -/
import Derived.Test.YtlkpfhdlfapfhaaGreatDoorLTD
namespace Go.G
open Go Go.J
theorem gsB_cons (o:Option Nat) (i:Nat) (x:TBar) (t:List TBar):gsB o i (x::t)=match (bif x.Open then some i else o) with
  | none=>(i,i+1,1)::gsB none (i+1) t
  | some s=>if x.Close>0 then (s,i+1,x.Close)::gsB none (i+1) t else gsB (some s) (i+1) t:=rfl
theorem scanB (bs:List TBar):∀ (t:List TBar) (i:Nat) (s r:SB),bs.drop i=t→goB s t = .inr r→r.1=false→(s.1=true∨∃ x t',t=x::t'∧x.Open=true) →
  ∃ l y s',i≤l∧bs[l]? = some y∧(∀ j,i≤j→j<l→∃ z,bs[j]? = some z∧z.Close=0)∧y.Close≠0∧2≤y.Close∧y.Close≤9∧s'.1=false∧goB s' (bs.drop (l+1)) = .inr r ∧
   ∀ o a,(bif (match t with | []=>false | x::_=>x.Open) then some i else o)=some a→gsB o i t=(a,l+1,y.Close)::gsB none (l+1) (bs.drop (l+1))
 | [],i,s,r,_,h,hr,ho=>by
  cases h
  rcases ho with ho | ⟨x,t',h,_⟩
  ·rw [ho] at hr; cases hr
  ·cases h
 | x::t,i,s,r,hd,h,hr,ho=>by
  obtain ⟨hx,hd'⟩:=drop_cons hd
  obtain ⟨s',h1,h2⟩:=goB_cons h
  obtain ⟨hb,hop,hc⟩:=stB_inr h1
  have hnb:=notbad x hb
  have ho':x.Open=true∨s.1=true:=by
   rcases ho with ho | ⟨x',t',h,h'⟩
   ·exact .inr ho
   ·cases h; exact .inl h'
  rcases hc with ⟨c1,c2,_⟩ | ⟨c1,c2,rfl⟩ | ⟨c1,c2,rfl⟩
  ·rcases ho' with ho' | ho'
   ·rw [c1] at ho'; cases ho'
   ·rw [c2] at ho'; cases ho'
  ·obtain ⟨l,y,s',k1,k2,k3,k4,k5,k6,k7,k8,k9⟩:=scanB bs t (i+1) _ r hd' h2 hr (.inl rfl)
   refine ⟨l,y,s',by omega,k2,fun j hj hj'=>?_,k4,k5,k6,k7,k8,fun o a ha=>?_⟩
   ·by_cases hji:j=i
    ·subst hji; exact ⟨x,hx,c2⟩
    ·exact k3 j (by omega) hj'
   ·rw [gsB_cons]
    simp only at ha
    rw [ha]
    have hc0:¬ (x.Close>0):=by omega
    simp only [hc0,if_false]
    refine k9 (some a) a ?_
    cases t with
    | nil=>rfl
    | cons x' t' =>
     obtain ⟨s'',q1,_⟩:=goB_cons h2
     have:=(stB_inr q1).2.1
     cases hxo:x'.Open
     ·simp [hxo]
     ·exact (Bool.noConfusion (this hxo))
  ·have hcl:=hnb.2.2.2.1 c2
   refine ⟨i,x,_,Nat.le_refl _,hx,fun j hj hj'=>by omega,c2,hcl.1,hcl.2,rfl,by rw [hd']; exact h2,fun o a ha=>?_⟩
   rw [gsB_cons]
   simp only at ha
   rw [ha,hd']
   have hc0:x.Close>0:=by omega
   simp only [hc0,if_true]
theorem OrderOf_spec (bs:List TBar) (hl:bs.length≤600) (r:SB) (h:goB (false,0,0,false) bs = .inr r) (hr:r.1=false) :
  m_gleeref2_OrderOf bs=some (expand bs (gsB none 0 bs)):=by
 have hall:=goB_all bs _ r h
 have hTl:(expand bs (gsB none 0 bs)).length≤10000000:=by
  have h1:=expand_len bs bs.length (gsB none 0 bs) (fun g hg=>by have:=gsB_mem bs 0 none hall (by simp) g hg; omega)
  have h2:=gsB_len bs 0 none
  have h3:(gsB none 0 bs).length*(9*bs.length)≤600*(9*600):=Nat.mul_le_mul (by omega) (by omega)
  omega
 generalize hT:expand bs (gsB none 0 bs)=T at hTl
 obtain ⟨f,hf,n,rfl⟩:=loopM_post (m_gleeref2_OrderOf_l1 bs) (fun u=>∃ (m:Nat) (s:SB),u.1=m∧m≤bs.length∧goB s (bs.drop m) = .inr r∧s.1=false∧u.2++expand bs (gsB none m (bs.drop m))=T) (fun u=>bs.length - u.1.toNat) (fun f=>∃ n,f = .brk (n,T)) (by
  rintro ⟨n,acc⟩ ⟨m,s,rfl,hm,hg,hs,hT⟩
  simp only at hT
  have hal:acc.length≤T.length:=by rw [← hT,List.length_append]; omega
  unfold m_gleeref2_OrderOf_l1
  by_cases h1:m<bs.length
  ·refine .inl ?_
   rw [decide_eq_true (show (m:Int)<(bs.length:Int) by omega),ifB_true]
   have hx:bs[m]? = some bs[m]:=List.getElem?_eq_getElem h1
   have hd:bs.drop m=bs[m]::bs.drop (m+1):=by rw [List.drop_eq_getElem_cons h1]
   have hw:w64 ((m:Int)+1)=((m+1:Nat):Int):=by rw [w64_id (by omega)]; omega
   generalize bs[m]=x at hx hd
   show ∃ s',(getI bs (m:Int)).bind _=_∧_
   rw [getI_of rfl hx,Option.bind_some]
   have hg0:=hg
   have hT0:=hT
   rw [hd] at hg hT
   obtain ⟨s',q1,q2⟩:=goB_cons hg
   obtain ⟨hb,hop,hc⟩:=stB_inr q1
   cases hxo:x.Open with
   | false =>
    rcases hc with ⟨c1,c2,c3,c4,rfl⟩ | ⟨c1,_⟩ | ⟨c1,_⟩
    ·have hsu:passes bs m (m+1 - m) (1:Int).toNat 1=[(m:Int)]:=by
      have e1:m+1 - m=0+1:=by omega
      have e2:sungB bs 1 m=true:=by unfold sungB; rw [hx]; simp [c4]
      rw [e1]
      show passF bs 1 m (0+1)++[]=_
      unfold passF
      rw [e2]
      rfl
     unfold gsB at hT
     simp only [hxo,cond_false] at hT
     unfold expand at hT
     simp only [hsu] at hT
     refine ⟨(((m+1:Nat):Int),acc++[(m:Int)]),?_,⟨m+1,s',rfl,by omega,q2,hs,by simpa using hT⟩,by simp only; omega⟩
     simp only [Bool.not_false,ifB_true,appM_of (xs:=acc) (ys:=[(m:Int)]) (by_:=8) (by simp; omega) (by omega),Option.bind_some,hw]
    ·rcases c1 with c1 | c1
     ·rw [hxo] at c1; cases c1
     ·rw [hs] at c1; cases c1
    ·rcases c1 with c1 | c1
     ·rw [hxo] at c1; cases c1
     ·rw [hs] at c1; cases c1
   | true =>
    obtain ⟨l,y,s',k1,k2,k3,k4,k5,k6,k7,k8,k9⟩:=scanB bs (x::bs.drop (m+1)) m s r hd (hd ▸ hg0) hr (.inr ⟨x,_,rfl,hxo⟩)
    have hll:l<bs.length:=(List.getElem?_eq_some_iff.1 k2).1
    have k9:=k9 none m (by simp [hxo])
    rw [k9] at hT
    have hT':(acc++passes bs m (l+1 - m) y.Close.toNat 1)++expand bs (gsB none (l+1) (bs.drop (l+1)))=T:=by
     rw [← hT,List.append_assoc]; rfl
    obtain ⟨f,hf,p,rfl⟩:=ref3 bs l y k2 ⟨by omega,k6⟩ hl m k1 acc (acc++passes bs m (l+1 - m) y.Close.toNat 1) (by rw [← hT',List.length_append] at hTl; omega) (1,acc) ⟨y.Close.toNat,by simp only; omega,by simp,rfl⟩
    refine ⟨(((l+1:Nat):Int),acc++passes bs m (l+1 - m) y.Close.toNat 1),?_,⟨l+1,s',rfl,by omega,k8,k7,hT'⟩,by simp only; omega⟩
    simp only [Bool.not_true,ifB_false]
    rw [ref2 bs hl l y k2 k4 m k1 k3,Option.bind_some,fin_brk,hf,Option.bind_some,fin_brk,w64_id (by omega)]
    rfl
  ·refine .inr (.inl ?_)
   rw [decide_eq_false (show ¬ (m:Int)<(bs.length:Int) by omega)]
   refine ⟨(m,acc),rfl,m,?_⟩
   rw [← hT,List.drop_of_length_le (by omega)]
   unfold gsB expand
   rw [List.append_nil]) (0,[]) ⟨0,(false,0,0,false),rfl,by omega,by simpa using h,rfl,by simpa using hT⟩
 unfold m_gleeref2_OrderOf
 rw [hf,Option.bind_some,fin_brk]
def cB (bs:List TBar):Int :=
 ifB ((bs.length:Int)==0) 8 (ifB (decide ((bs.length:Int)>300)) 2 (match goB (false,0,0,false) bs with
  | .inl k=>k
  | .inr r=>ifB (r.1||r.2.2.2) 16 (ifB (decide ((expand bs (gsB none 0 bs)).length>2000)) 2 0)))
theorem grp_ok (bs:List TBar) (r:SB) (h:goB (false,0,0,false) bs = .inr r):∀ g∈gsB none 0 bs,g.1≤g.2.1∧g.2.1≤bs.length∧1≤g.2.2∧g.2.2≤9:=fun g hg=>by
 have:=gsB_mem bs 0 none (goB_all bs _ r h) (by simp) g hg; omega
theorem CheckBars_spec (bs:List TBar) (hl:bs.length≤600):m_piece_CheckBars bs=some (cB bs):=by
 unfold m_piece_CheckBars cB
 rw [rulesFault_spec bs hl]
 cases ((bs.length:Int)==0) with
 | true=>rfl
 | false =>
  cases decide ((bs.length:Int)>300) with
  | true=>rfl
  | false =>
   simp only [ifB_false,Option.bind_some]
   cases h:goB (false,0,0,false) bs with
   | inl k =>
    have hk:(k != 0)=true:=by simpa using goB_inl _ _ _ h
    simp only [hk,ifB_true]
   | inr r =>
    have hw:=wrong_spec bs bs 0 none (false,0,0,false) r rfl h rfl (by simp)
    simp only [Bool.false_or] at hw
    show (m_piece_repeats bs).bind _=_
    rw [repeats_spec bs hl (goB_all bs _ r h),Option.bind_some]
    simp only [hw.2]
    cases (gsB none 0 bs).any (badG bs) with
    | true=>simp
    | false =>
     simp only [cond_false,Bool.or_false,order_spec bs hl _ (grp_ok bs r h),Option.bind_some]
     have he:(endB none 0 bs).isNone = !r.1:=by rw [← hw.1]; cases endB none 0 bs <;> rfl
     rw [he]
     cases r.1 with
     | true=>rfl
     | false =>
      simp only [Bool.not_false,Bool.not_true,ifB_false]
      by_cases hlen:(expand bs (gsB none 0 bs)).length>2000
      ·rw [decide_eq_true hlen,decide_eq_true (by rw [List.length_take]; omega)]; rfl
      ·rw [decide_eq_false hlen,decide_eq_false (by rw [List.length_take]; omega)]; rfl
theorem BarsFault_spec (bs:List TBar) (hl:bs.length≤600):m_gleeref2_BarsFault bs=some (cB bs):=by
 unfold m_gleeref2_BarsFault cB
 rw [barRef bs 0 (false,0,0,false)]
 cases ((bs.length:Int)==0) with
 | true=>rfl
 | false =>
  cases decide ((bs.length:Int)>300) with
  | true=>rfl
  | false =>
   simp only [ifB_false,Option.bind_some]
   cases h:goB (false,0,0,false) bs with
   | inl k=>rfl
   | inr r =>
    have ho:=OrderOf_spec bs hl r h
    revert ho
    obtain ⟨o,e,m,w⟩:=r
    cases o with
    | true=>intro _; rfl
    | false =>
     intro ho
     have ho:=ho rfl
     cases w with
     | true=>rfl
     | false =>
      simp only [fin_brk,ifB_false,Option.bind_some,fin_inl,ho,Bool.or_false]
      by_cases hlen:(expand bs (gsB none 0 bs)).length>2000
      ·rw [decide_eq_true hlen,decide_eq_true (by omega)]; rfl
      ·rw [decide_eq_false hlen,decide_eq_false (by omega)]; rfl
theorem cB_zero {bs:List TBar} (h:cB bs=0):bs.length≤300∧∃ r,goB (false,0,0,false) bs = .inr r∧r.1=false∧r.2.2.2=false∧(expand bs (gsB none 0 bs)).length≤2000:=by
 unfold cB at h
 by_cases h0:(bs.length:Int)=0
 ·rw [h0] at h; cases h
 ·have hb:((bs.length:Int)==0)=false:=by simpa using h0
  rw [hb,ifB_false] at h
  by_cases h1:(bs.length:Int)>300
  ·rw [decide_eq_true h1] at h; cases h
  ·rw [decide_eq_false h1,ifB_false] at h
   refine ⟨by omega,?_⟩
   cases hg:goB (false,0,0,false) bs with
   | inl k=>rw [hg] at h; exact (goB_inl _ _ _ hg h).elim
   | inr r =>
    rw [hg] at h
    refine ⟨r,rfl,?_⟩
    simp only at h
    cases h2:r.1 with
    | true=>rw [h2] at h; cases h
    | false =>
     cases h3:r.2.2.2 with
     | true=>rw [h2,h3] at h; cases h
     | false =>
      rw [h2,h3] at h
      refine ⟨rfl,rfl,?_⟩
      by_cases hlen:(expand bs (gsB none 0 bs)).length>2000
      ·rw [decide_eq_true hlen] at h; cases h
      ·omega
theorem played_spec {bs:List TBar} (h:cB bs=0):m_piece_played bs=some (expand bs (gsB none 0 bs)):=by
 obtain ⟨hl,r,hg,h1,h2,h3⟩:=cB_zero h
 have hw:=wrong_spec bs bs 0 none (false,0,0,false) r rfl hg rfl (by simp)
 simp only [Bool.false_or,h2] at hw
 unfold m_piece_played
 rw [repeats_spec bs (by omega) (goB_all bs _ r hg),← hw.2,cond_false,Option.bind_some]
 simp only
 rw [order_spec bs (by omega) _ (grp_ok bs r hg),Option.bind_some,List.take_of_length_le (by omega)]
end Go.G
