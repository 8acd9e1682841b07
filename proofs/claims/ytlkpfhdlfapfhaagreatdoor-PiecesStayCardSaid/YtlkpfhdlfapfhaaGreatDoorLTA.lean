/- LTA: what the drawn bars' models answer: at most twelve bars. No program in sight. -/
import Derived.Test.YtlkpfhdlfapfhaaGreatDoorLGen
namespace Go.G
open Go Go.J
theorem Odd_spec (L:List Int) {p a b:Int} (hp:0≤p) (hp':p≤100000000) (ha:-1000000000000≤a) (hab:a≤b) (hb:b≤1000000000000) :
  ∃ v p',m_gleemake_Stream_Odd L p a b=some (v,p')∧p≤p'∧p'≤p+2:=by
 unfold m_gleemake_Stream_Odd
 obtain ⟨f,hf⟩:=Flip_spec L (n:=12) hp (by omega) (by omega)
 rw [hf]
 show ∃ v p',ifB f _ _=_∧_
 cases f with
 | true =>
  obtain ⟨v,hv,-⟩:=Pick_spec L (p:=p+1) [w64 (a - 1),w64 (b+1),a,b,(-1099511627776),1099511627776] (by omega) (by omega) (by simp) (by simp)
  exact ⟨v,p+1+1,by rw [ifB_true,hv]; rfl,by omega,by omega⟩
 | false =>
  obtain ⟨v,hv,-⟩:=Range_spec L (p:=p+1) (a:=a) (b:=b) (by omega) (by omega) ha hab hb
  exact ⟨v,p+1+1,by rw [ifB_false]; show (m_gleemake_Stream_Range L (p+1) a b).bind _=_; rw [hv]; rfl,by omega,by omega⟩
theorem RightBars_1_spec (L:List Int) {p:Int} (hp:0≤p) (hp':p≤100000000):∃ x,m_gleemake_Stream_RightBars_1 L p=some (x,p+2):=by
 unfold m_gleemake_Stream_RightBars_1
 obtain ⟨v,hv,-⟩:=Pick_spec L (p:=p) [1,2,3,4] (by omega) (by omega) (by simp) (by simp)
 obtain ⟨u,hu,-⟩:=Pick_spec L (p:=p+1) [4,4,2,8] (by omega) (by omega) (by simp) (by simp)
 have e:p+1+1=p+2:=by omega
 exact ⟨⟨v,u,0,0,false⟩,by rw [hv]; simp only [Option.bind_some,hu,fin_inl,e]⟩
theorem RightBars_spec (L:List Int):∃ bs p',m_gleemake_Stream_RightBars L 0=some (bs,p')∧1≤bs.length∧bs.length≤12∧0≤p'∧p'≤1000:=by
 unfold m_gleemake_Stream_RightBars
 obtain ⟨n,hn,hn1,hn2⟩:=Range_spec L (p:=0) (a:=1) (b:=4) (by omega) (by omega) (by omega) (by omega) (by omega)
 rw [hn]
 show ∃ bs p',(rangeI n).bind _=_∧_
 rw [rangeI_of (by omega)]
 let I:Nat→Int × List TBar→Prop:=fun i s=>(i≤s.2.length∧s.2.length≤3*i)∧0≤s.1∧s.1≤1+12*i
 have hst:∀ i x s,(List.range n.toNat)[i]? = some x→I i s→∃ s',m_gleemake_Stream_RightBars_l1 L i x s=some (.nxt s')∧I (i+1) s':=by
  rintro i x ⟨p,acc⟩ hi ⟨⟨ha0,ha⟩,hp,hp'⟩
  have hi4:i<4:=by
   have:=(List.getElem?_eq_some_iff.1 hi).1; simp at this; omega
  have hp1:p≤100:=by simp at hp'; omega
  have ha1:acc.length≤12:=by simp at ha; omega
  simp only at ha0 ha hp hp'
  unfold m_gleemake_Stream_RightBars_l1
  obtain ⟨f,hf⟩:=Flip_spec L (p:=p) (n:=2) (by omega) (by omega) (by omega)
  show ∃ s',(m_gleemake_Stream_Flip L p 2).bind _=_∧_
  rw [hf]
  show ∃ s',ifB (!f) _ _=_∧_
  cases f with
  | false =>
   obtain ⟨b,hb⟩:=RightBars_1_spec L (p:=p+1) (by omega) (by omega)
   refine ⟨(p+1+2,acc++[b]),?_,?_,?_,?_⟩
   ·show (m_gleemake_Stream_RightBars_1 L (p+1)).bind _=_
    rw [hb]
    show (appM 40 acc [b]).bind _=_
    rw [appM_of (by simp; omega) (by omega)]; rfl
   ·simp; omega
   ·simp; omega
   ·simp; omega
  | true =>
   obtain ⟨c,hc,hc1,hc2⟩:=Range_spec L (p:=p+1) (a:=1) (b:=3) (by omega) (by omega) (by omega) (by omega) (by omega)
   obtain ⟨d,hd,hd1,hd2⟩:=Range_spec L (p:=p+1+1) (a:=2) (b:=3) (by omega) (by omega) (by omega) (by omega) (by omega)
   let J:Nat→Int × Int × List TBar→Prop:=fun j s=>s.2.2.length=acc.length+j∧p≤s.2.1∧s.2.1≤p+3+3*j
   have hst2:∀ j y s,(List.range c.toNat)[j]? = some y→J j s→∃ s',m_gleemake_Stream_RightBars_l2 L (c,p+1+1) (d,p+1+1+1) j y s=some (.nxt s')∧J (j+1) s':=by
    rintro j y ⟨e,q,cc⟩ hj ⟨k1,k2,k3⟩
    have hj3:j<3:=by
     have:=(List.getElem?_eq_some_iff.1 hj).1; simp at this; omega
    simp only at k1 k2 k3
    unfold m_gleemake_Stream_RightBars_l2
    obtain ⟨b,hb⟩:=RightBars_1_spec L (p:=q) (by omega) (by omega)
    obtain ⟨f,hf⟩:=Flip_spec L (p:=q+2) (n:=2) (by omega) (by omega) (by omega)
    show ∃ s',(m_gleemake_Stream_RightBars_1 L q).bind _=_∧_
    rw [hb]
    have hap:∀ z:TBar,appM 40 cc [z]=some (cc++[z]):=fun z=>appM_of (by simp; omega) (by omega)
    by_cases hj0:(j:Int)>0
    ·simp only [Option.bind_some,decide_eq_true hj0,ifB_true,hf,fin_inl,hap]
     cases f <;> cases ((j:Int)==w64 (c - 1)) <;> simp only [ifB_true,ifB_false,Option.bind_some,fin_inl]
     all_goals exact ⟨_,rfl,by simp; omega,by simp; omega,by simp; omega⟩
    ·simp only [Option.bind_some,decide_eq_false hj0,ifB_false,fin_inl,hap]
     cases ((j:Int)==w64 (c - 1)) <;> simp only [ifB_true,ifB_false,Option.bind_some,fin_inl]
     all_goals exact ⟨_,rfl,by simp; omega,by simp; omega,by simp; omega⟩
   obtain ⟨s',h1,h2⟩:=rangeM_invx _ _ J hst2 (0,p+1+1+1,acc) ⟨by simp,by simp; omega,by simp; omega⟩
   have hr:1≤(List.range c.toNat).length∧(List.range c.toNat).length≤3:=by simp; omega
   obtain ⟨h2a,h2b,h2c⟩:=h2
   refine ⟨(s'.2.1,s'.2.2),?_,?_,?_,?_⟩
   ·show (m_gleemake_Stream_Range L (p+1) 1 3).bind _=_
    rw [hc]
    show (m_gleemake_Stream_Range L (p+1+1) 2 3).bind _=_
    rw [hd]
    show (rangeI c).bind _=_
    rw [rangeI_of (by omega)]
    show (rangeM (m_gleemake_Stream_RightBars_l2 L (c,p+1+1) (d,p+1+1+1)) 0 (List.range c.toNat) (0,p+1+1+1,acc)).bind _=_
    rw [h1]; rfl
   ·simp only; omega
   ·simp only; omega
   ·simp only; omega
 obtain ⟨s',h1,h2⟩:=rangeM_invx _ _ I hst (0+1,[]) ⟨by simp,by simp⟩
 refine ⟨s'.2,s'.1,?_,?_,?_,?_,?_⟩
 ·show (rangeM (m_gleemake_Stream_RightBars_l1 L) 0 (List.range n.toNat) (0+1,[])).bind _=_
  rw [h1]; rfl
 ·have:=h2.1.1; simp at this; omega
 ·have:=h2.1.2; simp at this; omega
 ·exact h2.2.1
 ·have:=h2.2.2; simp at this; omega
end Go.G
