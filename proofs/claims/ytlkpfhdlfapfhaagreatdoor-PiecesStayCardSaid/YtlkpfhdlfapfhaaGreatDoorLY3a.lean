/- LY3a: which acts count, as the program finds it. In plain Lean, no program in sight. -/
import Derived.Test.YtlkpfhdlfapfhaaGreatDoorLY2
namespace Go.G
open Go Go.J
set_option linter.unusedSimpArgs false
theorem ReverseI_spec (xs:List Int) (hl:xs.length≤1000000):m_slices_Reverse_int_int xs=some xs.reverse:=by
 unfold m_slices_Reverse_int_int
 rw [w64_id (by omega)]
 obtain ⟨f,h1,h2⟩:=loopM_post m_slices_Reverse_int_int_l1
  (fun s=>∃ i:Nat,s.1=i∧s.2.1=(xs.length:Int) - 1 - i∧i≤xs.length∧s.2.2.length=xs.length∧∀ k,k<xs.length→s.2.2[k]? = if k<i∨xs.length<k+i+1 then xs[xs.length - 1 - k]? else xs[k]?)
  (fun s=>xs.length - s.1.toNat) (fun f=>∃ a b,f = .brk (a,b,xs.reverse)) (by
   rintro ⟨i',j',ys⟩ ⟨i,rfl,rfl,hi,hys,hk⟩
   simp only at hys hk
   unfold m_slices_Reverse_int_int_l1
   by_cases hlt:(i:Int)<(xs.length:Int) - 1 - i
   ·left
    have hjn:(xs.length:Int) - 1 - i=((xs.length - 1 - i:Nat):Int):=by omega
    have g1:getI ys (i:Int)=some (ys[i]'(by omega)):=getI_of (n:=i) rfl (List.getElem?_eq_getElem (by omega))
    have g2:getI ys ((xs.length - 1 - i:Nat):Int)=some (ys[xs.length - 1 - i]'(by omega)):=getI_of rfl (List.getElem?_eq_getElem (by omega))
    have g3:∃ z,getI (ys.set i (ys[xs.length - 1 - i]'(by omega))) ((xs.length - 1 - i:Nat):Int)=some z:=⟨_,getI_of rfl (List.getElem?_eq_getElem (by simp; omega))⟩
    obtain ⟨z,g3⟩:=g3
    have hlt':(i:Int)<((xs.length - 1 - i:Nat):Int):=by omega
    simp only [hjn,decide_eq_true hlt',ifB_true,g1,g2,Option.bind_some,Int.toNat_natCast,g3]
    refine ⟨_,rfl,⟨i+1,by rw [w64_id (by omega)]; rfl,by simp only; rw [w64_id (by omega)]; omega,by omega,by simp [hys],?_⟩,by simp only; rw [w64_id (by omega)]; omega⟩
    intro k hkl
    have a1:=hk i (by omega)
    have a2:=hk (xs.length - 1 - i) (by omega)
    rw [if_neg (by omega)] at a1 a2
    have b1:ys[i]'(by omega)=xs[i]'(by omega):=by
     rw [List.getElem?_eq_getElem (by omega),List.getElem?_eq_getElem (by omega)] at a1
     exact Option.some.inj a1
    have b2:ys[xs.length - 1 - i]'(by omega)=xs[xs.length - 1 - i]'(by omega):=by
     rw [List.getElem?_eq_getElem (by omega),List.getElem?_eq_getElem (by omega)] at a2
     exact Option.some.inj a2
    simp only [List.getElem?_set]
    by_cases c1:xs.length - 1 - i=k
    ·subst c1
     rw [if_pos rfl,if_pos (by simp; omega),if_pos (by omega),b1]
     have:xs.length - 1 - (xs.length - 1 - i)=i:=by omega
     rw [this,List.getElem?_eq_getElem (by omega)]
    ·rw [if_neg c1]
     by_cases c2:i=k
     ·subst c2
      rw [if_pos rfl,if_pos (by omega),if_pos (by omega),b2,List.getElem?_eq_getElem (by omega)]
     ·rw [if_neg c2,hk k hkl]
      by_cases c3:k<i∨xs.length<k+i+1
      ·rw [if_pos c3,if_pos (by omega)]
      ·rw [if_neg c3,if_neg (by omega)]
   ·right; left
    simp only [decide_eq_false hlt,ifB_false]
    refine ⟨_,rfl,_,_,congrArg Flow.brk (Prod.ext rfl (Prod.ext rfl ?_))⟩
    apply List.ext_getElem?
    intro k
    by_cases hkl:k<xs.length
    ·rw [hk k hkl,List.getElem?_reverse hkl]
     split
     ·rfl
     ·have:xs.length - 1 - k=k:=by omega
      rw [this]
    ·rw [List.getElem?_eq_none (by simp only; omega),List.getElem?_eq_none (by simp; omega)]) (0,(xs.length:Int) - 1,xs) ⟨0,rfl,by simp,Nat.zero_le _,rfl,fun k hk=>by rw [if_neg (by omega)]⟩
 obtain ⟨a,b,rfl⟩:=h2
 rw [h1]; rfl
theorem rangeB_suf {α σ ρ : Type} (step:Nat → α → σ → Option (Flow σ ρ)) (xs:List α) (I:List α → σ → Prop)
  (h:∀ pre x t s,xs=pre++x::t→I t s→∃ s',step pre.length x s=some (.nxt s')∧I (x::t) s') (s : σ) (h0:I [] s):∃ s',rangeB step xs s=some (.brk s')∧I xs s':=by
 obtain ⟨s',h1,h2⟩:=rangeM_invx (fun j x s=>step (xs.length - 1 - j) x s) xs.reverse (fun j s=>I (xs.drop (xs.length - j)) s) (by
  intro j x s hx hI
  have hj:j<xs.length:=by simpa using (List.getElem?_eq_some_iff.1 hx).1
  have e1:xs[xs.length - 1 - j]? = some x:=by rw [← hx,List.getElem?_reverse hj]
  have e2:xs=xs.take (xs.length - 1 - j)++x::xs.drop (xs.length - j):=by
   have:=List.take_append_drop (xs.length - 1 - j) xs
   conv=>lhs; rw [← this]
   congr 1
   obtain ⟨hk,e⟩:=List.getElem?_eq_some_iff.1 e1
   rw [List.drop_eq_getElem_cons hk,e,show xs.length - 1 - j+1=xs.length - j by omega]
  have e3:(xs.take (xs.length - 1 - j)).length=xs.length - 1 - j:=by simp; omega
  obtain ⟨s',g1,g2⟩:=h _ x _ s e2 hI
  refine ⟨s',by rw [e3] at g1; exact g1,?_⟩
  have e4:xs.drop (xs.length - (j+1))=x::xs.drop (xs.length - j):=by
   obtain ⟨hk,e⟩:=List.getElem?_eq_some_iff.1 e1
   rw [show xs.length - (j+1)=xs.length - 1 - j by omega,List.drop_eq_getElem_cons hk,e,show xs.length - 1 - j+1=xs.length - j by omega]
  rw [e4]; exact g2) s (by simpa using h0)
 exact ⟨s',h1,by simpa using h2⟩
def und (at_:Int):List TAct→Tclub_own→Bool
 | [],_=>false
 | x::t,k=>und at_ t k||(decide (x.At≤at_) && !und at_ t (own x)&&(x.Kind==7)&&decide (k=⟨x.Of,x.Other⟩))
def cnt (at_:Int) (x:TAct) (t:List TAct):Bool:=decide (x.At≤at_) && !und at_ t (own x)
def cntIx (at_:Int):Nat→List TAct→List Int
 | _,[]=>[]
 | i,x::t=>(bif cnt at_ x t then [(i:Int)] else [])++cntIx at_ (i+1) t
theorem und_cons (at_:Int) (x:TAct) (t:List TAct) (k:Tclub_own):und at_ (x::t) k=(und at_ t k||(cnt at_ x t&&((x.Kind==7)&&decide (k=⟨x.Of,x.Other⟩)))):=by
 rw [und]; unfold cnt; rw [Bool.and_assoc (decide (x.At≤at_) && !und at_ t (own x))]
theorem cntIx_len (at_:Int):∀ (t:List TAct) (i:Nat),(cntIx at_ i t).length≤t.length:=by
 intro t
 induction t with
 | nil=>intro i; simp [cntIx]
 | cons x t ih =>
  intro i
  have:=ih (i+1)
  unfold cntIx
  cases cnt at_ x t <;> simp <;> omega
theorem cntIx_mem (at_:Int):∀ (t:List TAct) (i:Nat) (z:Int),z∈cntIx at_ i t→∃ j:Nat,z=(i+j:Nat)∧j<t.length:=by
 intro t
 induction t with
 | nil=>intro i z hz; cases hz
 | cons x t ih =>
  intro i z hz
  unfold cntIx at hz
  rcases List.mem_append.1 hz with h | h
  ·cases hc:cnt at_ x t
   ·rw [hc] at h; cases h
   ·rw [hc] at h
    simp at h
    exact ⟨0,by simpa using h,by simp⟩
  ·obtain ⟨j,rfl,hj⟩:=ih (i+1) z h
   exact ⟨j+1,by congr 1; omega,by simp; omega⟩
theorem counting_spec (l:List TAct) (at_:Int) (hl:l.length≤100000):m_club_counting l at_=some (cntIx at_ 0 l):=by
 unfold m_club_counting
 obtain ⟨s,h1,h2,h3⟩:=rangeB_suf (m_club_counting_l1 at_) l (fun t s=>(∀ k,(lkM s.1 k).getD false=und at_ t k)∧s.2=(cntIx at_ (l.length - t.length) t).reverse) (by
  rintro pre x t ⟨u,v⟩ hx ⟨hu,hv⟩
  simp only at hu hv
  have hlen:pre.length+(t.length+1)=l.length:=by rw [hx]; simp
  have e0:l.length - t.length=pre.length+1:=by omega
  have e1:l.length - (x::t).length=pre.length:=by simp; omega
  have hv':v.length≤t.length:=by rw [hv,List.length_reverse]; exact cntIx_len _ _ _
  unfold m_club_counting_l1
  have e2:(ifB (decide (x.At>at_)) (some (.inl true)) (some (.inl ((lkM u (Tclub_own.mk x.Site x.No)).getD false))):Option (Bool ⊕ (Flow ((List (Tclub_own × Bool)) × (List Int)) (List Int))))=some (.inl (!cnt at_ x t)):=by
   rw [show Tclub_own.mk x.Site x.No=own x from rfl,hu]
   unfold cnt
   by_cases h:x.At>at_
   ·rw [decide_eq_true h,decide_eq_false (show ¬ x.At≤at_ by omega)]; rfl
   ·rw [decide_eq_false h,decide_eq_true (show x.At≤at_ by omega)]; simp
  rw [e2,Option.bind_some,fin_inl,e1]
  rw [e0] at hv
  cases hc:cnt at_ x t
  ·simp only [Bool.not_false,ifB_true]
   refine ⟨_,rfl,fun k=>by rw [und_cons,hc,hu]; simp,?_⟩
   simp only [cntIx,hc,cond_false,List.nil_append]; exact hv
  ·rw [Bool.not_true,ifB_false,appM_of (by simp; omega) (by omega),Option.bind_some]
   have e3:v++[(pre.length:Int)]=(cntIx at_ pre.length (x::t)).reverse:=by
    simp only [cntIx,hc,cond_true]; rw [List.reverse_append,← hv]; rfl
   cases h7:(x.Kind==7)
   ·rw [ifB_false]
    exact ⟨_,rfl,fun k=>by rw [und_cons,hc,hu,h7]; simp,e3⟩
   ·rw [ifB_true]
    refine ⟨_,rfl,fun k=>?_,e3⟩
    simp only
    rw [und_cons,hc,h7,lkM_put]
    by_cases hk:k=⟨x.Of,x.Other⟩
    ·rw [if_pos hk]; simp [hk]
    ·rw [if_neg hk,hu]; simp [hk]) ([],[]) ⟨fun k=>by simp [lkM,und],by simp [cntIx]⟩
 rw [h1,Option.bind_some,fin_brk,h3]
 have hlen:=cntIx_len at_ l 0
 rw [Nat.sub_self,ReverseI_spec _ (by simp; omega),Option.bind_some,List.reverse_reverse]
end Go.G
