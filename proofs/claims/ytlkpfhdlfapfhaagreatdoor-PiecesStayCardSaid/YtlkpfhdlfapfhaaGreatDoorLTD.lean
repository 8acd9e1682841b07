/- LTD: the two orders of a piece's bars are one, in plain Lean. No program in sight. -/
import Derived.Test.YtlkpfhdlfapfhaaGreatDoorLTC
namespace Go.G
open Go Go.J
def sungB (bs:List TBar) (p:Int) (n:Nat):Bool:=match bs[n]? with
 | some x=>x.Ending==0||x.Ending==p
 | none=>false
def passF (bs:List TBar) (p:Int):Nat→Nat→List Int
 | _,0=>[]
 | n,c+1=>bif sungB bs p n then (n:Int)::passF bs p (n+1) c else passF bs p (n+1) c
def passes (bs:List TBar) (a c:Nat):Nat→Int→List Int
 | 0,_=>[]
 | k+1,p=>passF bs p a c++passes bs a c k (p+1)
def expand (bs:List TBar):List Grp→List Int
 | []=>[]
 | g::gs=>passes bs g.1 (g.2.1 - g.1) g.2.2.toNat 1++expand bs gs
theorem passF_len (bs:List TBar) (p:Int):∀ (c n:Nat),(passF bs p n c).length≤c
 | 0,n=>by simp [passF]
 | c+1,n=>by
  have:=passF_len bs p c (n+1)
  unfold passF
  cases sungB bs p n
  ·simp; omega
  ·simp; omega
theorem passes_len (bs:List TBar) (a c:Nat):∀ (k:Nat) (p:Int),(passes bs a c k p).length≤k*c
 | 0,p=>by simp [passes]
 | k+1,p=>by
  have h1:=passes_len bs a c k (p+1)
  have h2:=passF_len bs p c a
  unfold passes
  rw [List.length_append,Nat.succ_mul]
  omega
theorem expand_len (bs:List TBar) (m:Nat):∀ (gs:List Grp),(∀ g∈gs,g.2.1≤m∧g.2.2≤9)→(expand bs gs).length≤gs.length*(9*m)
 | [],_=>by simp [expand]
 | g::gs,h=>by
  have h1:=expand_len bs m gs (fun g' hg'=>h g' (List.mem_cons_of_mem _ hg'))
  have hg:=h g (List.mem_cons_self ..)
  have h2:=passes_len bs g.1 (g.2.1 - g.1) g.2.2.toNat 1
  have h3:g.2.2.toNat*(g.2.1 - g.1)≤9*m:=Nat.mul_le_mul (by omega) (by omega)
  unfold expand
  rw [List.length_append,List.length_cons,Nat.succ_mul]
  omega
theorem take_over (n:Nat) (a b:List Int):(a.take n++b).take n=(a++b).take n:=by
 rw [List.take_append,List.take_append,List.take_take,Nat.min_self,List.length_take]
 by_cases h:n≤a.length
 ·rw [Nat.min_eq_left h]; simp; omega
 ·rw [Nat.min_eq_right (by omega)]
theorem sung_step {α : Type} (bs:List TBar) (p:Int) (n:Nat) (hn:n<bs.length) (k:Bool→Option α) :
  ((getI bs (n:Int)).bind fun e24=>ifB (e24.Ending==0) (k true) ((getI bs (n:Int)).bind fun e25=>k (e25.Ending==p)))=k (sungB bs p n):=by
 have hx:bs[n]? = some bs[n]:=List.getElem?_eq_getElem hn
 rw [getI_of rfl hx]
 unfold sungB
 rw [hx]
 simp only [Option.bind_some]
 cases (bs[n].Ending==0) <;> rfl
theorem prog3 (bs:List TBar) (hl:bs.length≤600) (g:Grp) (hg:g.2.1≤bs.length) (u:Int × List Int) (T:List Int) (s:Int × List Int)
  (hs:∃ m c:Nat,s.1=m∧m+c=g.2.1∧s.2.length≤2001∧(s.2++passF bs u.1 m c).take 2001=T) :
  ∃ f,loopM (m_piece_order_l3 bs 2000 (toRep g) u) s=some f∧∃ n,f = .brk (n,T):=by
 refine loopM_post (m_piece_order_l3 bs 2000 (toRep g) u) (fun s=>∃ m c:Nat,s.1=m∧m+c=g.2.1∧s.2.length≤2001∧(s.2++passF bs u.1 m c).take 2001=T) (fun s=>g.2.1 - s.1.toNat) _ ?_ s hs
 rintro ⟨n,acc⟩ ⟨m,c,rfl,hmc,ha,hT⟩
 simp only at ha hT
 have hw:w64 ((m:Int)+1)=((m+1:Nat):Int):=by rw [w64_id (by omega)]; omega
 unfold m_piece_order_l3
 show (∃ s',(ifB (decide ((m:Int)<(g.2.1:Int))) (some (.inl (decide ((acc.length:Int)≤2000)))) (some (.inl false)):Option (Bool ⊕ (Flow (Int × (List Int)) (Flow (Int × (List Int)) (Flow (List Int) (List Int)))))).bind _=_∧_)∨(∃ s',(ifB (decide ((m:Int)<(g.2.1:Int))) (some (.inl (decide ((acc.length:Int)≤2000)))) (some (.inl false)):Option (Bool ⊕ (Flow (Int × (List Int)) (Flow (Int × (List Int)) (Flow (List Int) (List Int)))))).bind _=_∧_)∨(∃ s',(ifB (decide ((m:Int)<(g.2.1:Int))) (some (.inl (decide ((acc.length:Int)≤2000)))) (some (.inl false)):Option (Bool ⊕ (Flow (Int × (List Int)) (Flow (Int × (List Int)) (Flow (List Int) (List Int)))))).bind _=_∧_)
 by_cases h1:m<g.2.1
 ·obtain ⟨c,rfl⟩:∃ c',c=c'+1:=⟨c - 1,by omega⟩
  rw [decide_eq_true (show (m:Int)<(g.2.1:Int) by omega),ifB_true,Option.bind_some]
  by_cases h2:acc.length≤2000
  ·refine .inl ?_
   rw [decide_eq_true (show (acc.length:Int)≤2000 by omega)]
   simp only [fin_inl,ifB_true]
   rw [sung_step bs u.1 m (by omega) (fun b=>some (Sum.inl b))]
   unfold passF at hT
   cases hsu:sungB bs u.1 m with
   | true =>
    rw [hsu] at hT
    simp only [Option.bind_some,fin_inl,ifB_true,appM_of (xs:=acc) (ys:=[(m:Int)]) (by_:=8) (by simp; omega) (by omega),hw]
    exact ⟨(((m+1:Nat):Int),acc++[(m:Int)]),rfl,⟨m+1,c,rfl,by omega,by simp; omega,by simpa using hT⟩,by simp only; omega⟩
   | false =>
    rw [hsu] at hT
    simp only [Option.bind_some,fin_inl,ifB_false,hw]
    exact ⟨(((m+1:Nat):Int),acc),rfl,⟨m+1,c,rfl,by omega,by omega,by simpa using hT⟩,by simp only; omega⟩
  ·refine .inr (.inl ?_)
   rw [decide_eq_false (show ¬ (acc.length:Int)≤2000 by omega)]
   refine ⟨(m,acc),rfl,m,?_⟩
   rw [← hT,List.take_append_of_le_length (by omega),List.take_of_length_le (by omega)]
 ·refine .inr (.inl ?_)
  rw [decide_eq_false (show ¬ (m:Int)<(g.2.1:Int) by omega)]
  refine ⟨(m,acc),rfl,m,?_⟩
  have:c=0:=by omega
  subst this
  rw [← hT]
  unfold passF
  rw [List.append_nil,List.take_of_length_le ha]
theorem prog2 (bs:List TBar) (hl:bs.length≤600) (g:Grp) (hab:g.1≤g.2.1) (hg:g.2.1≤bs.length) (ht:1≤g.2.2∧g.2.2≤9) (T:List Int) (s:Int × List Int)
  (hs:∃ k:Nat,s.1+k=g.2.2+1∧1≤s.1∧s.2.length≤2001∧(s.2++passes bs g.1 (g.2.1 - g.1) k s.1).take 2001=T) :
  ∃ f,loopM (m_piece_order_l2 bs 2000 (toRep g)) s=some f∧∃ n,f = .brk (n,T):=by
 refine loopM_post (m_piece_order_l2 bs 2000 (toRep g)) (fun s=>∃ k:Nat,s.1+k=g.2.2+1∧1≤s.1∧s.2.length≤2001∧(s.2++passes bs g.1 (g.2.1 - g.1) k s.1).take 2001=T) (fun s=>(g.2.2+1 - s.1).toNat) _ ?_ s hs
 rintro ⟨p,acc⟩ ⟨k,hk,hp,ha,hT⟩
 simp only at hk hp ha hT
 unfold m_piece_order_l2
 by_cases h1:p≤g.2.2
 ·obtain ⟨k,rfl⟩:∃ k',k=k'+1:=⟨k - 1,by omega⟩
  obtain ⟨f,hf,n,rfl⟩:=prog3 bs hl g hg (p,acc) ((acc++passF bs p g.1 (g.2.1 - g.1)).take 2001) ((g.1:Int),acc) ⟨g.1,g.2.1 - g.1,rfl,by omega,ha,rfl⟩
  refine .inl ⟨(p+1,(acc++passF bs p g.1 (g.2.1 - g.1)).take 2001),?_,⟨k,by simp only; omega,by simp only; omega,by simp only [List.length_take]; omega,?_⟩,by simp only; omega⟩
  ·show ifB (decide (p≤g.2.2)) _ _=_
   rw [decide_eq_true h1,ifB_true]
   show (loopM (m_piece_order_l3 bs 2000 (toRep g) (p,acc)) ((g.1:Int),acc)).bind _=_
   rw [hf,Option.bind_some,fin_brk,w64_id (by omega)]
  ·simp only
   rw [take_over,← hT,List.append_assoc]
   rfl
 ·refine .inr (.inl ⟨(p,acc),?_,p,?_⟩)
  ·show ifB (decide (p≤g.2.2)) _ _=_
   rw [decide_eq_false h1,ifB_false]
  ·have:k=0:=by omega
   subst this
   rw [← hT]
   unfold passes
   rw [List.append_nil,List.take_of_length_le ha]
theorem prog1 (bs:List TBar) (hl:bs.length≤600):∀ (gs:List Grp) (j:Nat) (acc:List Int),(∀ g∈gs,g.1≤g.2.1∧g.2.1≤bs.length∧1≤g.2.2∧g.2.2≤9)→acc.length≤2001 →
  rangeM (m_piece_order_l1 bs 2000) j (gs.map toRep) acc=some (.brk ((acc++expand bs gs).take 2001))
 | [],j,acc,_,ha=>by
  rw [List.map_nil,rangeM_nil]
  unfold expand
  rw [List.append_nil,List.take_of_length_le ha]
 | g::gs,j,acc,h,ha=>by
  have hg:=h g (List.mem_cons_self ..)
  obtain ⟨f,hf,n,rfl⟩:=prog2 bs hl g hg.1 hg.2.1 hg.2.2 ((acc++passes bs g.1 (g.2.1 - g.1) g.2.2.toNat 1).take 2001) (1,acc) ⟨g.2.2.toNat,by simp only; omega,by simp,ha,rfl⟩
  have ih:=prog1 bs hl gs (j+1) ((acc++passes bs g.1 (g.2.1 - g.1) g.2.2.toNat 1).take 2001) (fun g' hg'=>h g' (List.mem_cons_of_mem _ hg')) (by rw [List.length_take]; omega)
  have hst:m_piece_order_l1 bs 2000 j (toRep g) acc=some (.nxt ((acc++passes bs g.1 (g.2.1 - g.1) g.2.2.toNat 1).take 2001)):=by
   unfold m_piece_order_l1
   rw [hf,Option.bind_some,fin_brk]
  rw [List.map_cons,rangeM_cons,hst,Option.bind_some,run_nxt,ih,take_over,List.append_assoc]
  rfl
theorem order_spec (bs:List TBar) (hl:bs.length≤600) (gs:List Grp) (h:∀ g∈gs,g.1≤g.2.1∧g.2.1≤bs.length∧1≤g.2.2∧g.2.2≤9) :
  m_piece_order bs (gs.map toRep) 2000=some ((expand bs gs).take 2001):=by
 unfold m_piece_order
 rw [prog1 bs hl gs 0 [] h (by simp),Option.bind_some,fin_brk,List.nil_append]
theorem ref4 (bs:List TBar) (l:Nat) (hl:bs.length≤600) (hlt:l<bs.length) (u:Int × List Int) (T:List Int) (hTl:T.length≤10000000) (s:Int × List Int)
  (hs:∃ m c:Nat,s.1=m∧m+c=l+1∧s.2++passF bs u.1 m c=T) :
  ∃ f,loopM (m_gleeref2_OrderOf_l4 bs (l:Int) u) s=some f∧∃ n,f = .brk (n,T):=by
 refine loopM_post (m_gleeref2_OrderOf_l4 bs (l:Int) u) (fun s=>∃ m c:Nat,s.1=m∧m+c=l+1∧s.2++passF bs u.1 m c=T) (fun s=>l+1 - s.1.toNat) _ ?_ s hs
 rintro ⟨n,acc⟩ ⟨m,c,rfl,hmc,hT⟩
 simp only at hT
 have hal:acc.length≤T.length:=by rw [← hT,List.length_append]; omega
 have hw:w64 ((m:Int)+1)=((m+1:Nat):Int):=by rw [w64_id (by omega)]; omega
 unfold m_gleeref2_OrderOf_l4
 by_cases h1:m≤l
 ·obtain ⟨c,rfl⟩:∃ c',c=c'+1:=⟨c - 1,by omega⟩
  refine .inl ?_
  rw [decide_eq_true (show (m:Int)≤(l:Int) by omega),ifB_true]
  show ∃ s',(((getI bs (m:Int)).bind fun e27=>ifB (e27.Ending==0) (some (Sum.inl true)) ((getI bs (m:Int)).bind fun e28=>some (Sum.inl (e28.Ending==u.1)))):Option (Bool ⊕ (Flow (Int × (List Int)) (Flow (Int × (List Int)) (Flow (Int × (List Int)) (List Int)))))).bind _=_∧_
  rw [sung_step bs u.1 m (by omega) (fun b=>some (Sum.inl b))]
  unfold passF at hT
  cases hsu:sungB bs u.1 m with
  | true =>
   rw [hsu] at hT
   simp only [Option.bind_some,fin_inl,ifB_true,appM_of (xs:=acc) (ys:=[(m:Int)]) (by_:=8) (by simp; omega) (by omega),hw]
   exact ⟨(((m+1:Nat):Int),acc++[(m:Int)]),rfl,⟨m+1,c,rfl,by omega,by simpa using hT⟩,by simp only; omega⟩
  | false =>
   rw [hsu] at hT
   simp only [Option.bind_some,fin_inl,ifB_false,hw]
   exact ⟨(((m+1:Nat):Int),acc),rfl,⟨m+1,c,rfl,by omega,by simpa using hT⟩,by simp only; omega⟩
 ·refine .inr (.inl ?_)
  rw [decide_eq_false (show ¬ (m:Int)≤(l:Int) by omega)]
  refine ⟨(m,acc),rfl,m,?_⟩
  have:c=0:=by omega
  subst this
  rw [← hT]
  unfold passF
  rw [List.append_nil]
theorem ref3 (bs:List TBar) (l:Nat) (y:TBar) (hy:bs[l]? = some y) (hcl:0≤y.Close∧y.Close≤9) (hl:bs.length≤600) (n:Nat) (hn:n≤l) (u:List Int) (T:List Int) (hTl:T.length≤10000000) (s:Int × List Int)
  (hs:∃ k:Nat,s.1+k=y.Close+1∧1≤s.1∧s.2++passes bs n (l+1 - n) k s.1=T) :
  ∃ f,loopM (m_gleeref2_OrderOf_l3 bs (l:Int) ((n:Int),u)) s=some f∧∃ p,f = .brk (p,T):=by
 have hlt:l<bs.length:=(List.getElem?_eq_some_iff.1 hy).1
 refine loopM_post (m_gleeref2_OrderOf_l3 bs (l:Int) ((n:Int),u)) (fun s=>∃ k:Nat,s.1+k=y.Close+1∧1≤s.1∧s.2++passes bs n (l+1 - n) k s.1=T) (fun s=>(y.Close+1 - s.1).toNat) _ ?_ s hs
 rintro ⟨p,acc⟩ ⟨k,hk,hp,hT⟩
 simp only at hk hp hT
 unfold m_gleeref2_OrderOf_l3
 rw [getI_of rfl hy,Option.bind_some]
 by_cases h1:p≤y.Close
 ·obtain ⟨k,rfl⟩:∃ k',k=k'+1:=⟨k - 1,by omega⟩
  have hT':(acc++passF bs p n (l+1 - n))++passes bs n (l+1 - n) k (p+1)=T:=by
   rw [← hT,List.append_assoc]; rfl
  obtain ⟨f,hf,q,rfl⟩:=ref4 bs l hl hlt (p,acc) (acc++passF bs p n (l+1 - n)) (by rw [← hT',List.length_append] at hTl; omega) ((n:Int),acc) ⟨n,l+1 - n,rfl,by omega,rfl⟩
  refine .inl ⟨(p+1,acc++passF bs p n (l+1 - n)),?_,⟨k,by simp only; omega,by simp only; omega,hT'⟩,by simp only; omega⟩
  simp only
  rw [decide_eq_true h1,ifB_true,hf,Option.bind_some,fin_brk,w64_id (by omega)]
 ·refine .inr (.inl ⟨(p,acc),?_,p,?_⟩)
  ·simp only
   rw [decide_eq_false h1,ifB_false]
  ·have:k=0:=by omega
   subst this
   rw [← hT]
   unfold passes
   rw [List.append_nil]
theorem ref2 (bs:List TBar) (hl:bs.length≤600) (l:Nat) (y:TBar) (hy:bs[l]? = some y) (hcl:y.Close≠0) (n:Nat) (hn:n≤l) (hz:∀ j,n≤j→j<l→∃ z,bs[j]? = some z∧z.Close=0) :
  loopM (m_gleeref2_OrderOf_l2 bs) (n:Int)=some (.brk (l:Int)):=by
 have hlt:l<bs.length:=(List.getElem?_eq_some_iff.1 hy).1
 obtain ⟨f,hf,rfl⟩:=loopM_post (m_gleeref2_OrderOf_l2 bs) (fun s=>∃ m:Nat,s=m∧n≤m∧m≤l) (fun s=>l - s.toNat) (fun f=>f = .brk (l:Int)) (by
  rintro s ⟨m,rfl,h1,h2⟩
  unfold m_gleeref2_OrderOf_l2
  by_cases h3:m=l
  ·subst h3
   refine .inr (.inl ⟨(m:Int),?_,rfl⟩)
   rw [getI_of rfl hy,Option.bind_some]
   have:(y.Close==0)=false:=by simpa using hcl
   rw [this,ifB_false]
  ·obtain ⟨z,hz1,hz2⟩:=hz m h1 (by omega)
   refine .inl ⟨((m+1:Nat):Int),?_,⟨m+1,rfl,by omega,by omega⟩,by omega⟩
   rw [getI_of rfl hz1,Option.bind_some]
   have:(z.Close==0)=true:=by simpa using hz2
   rw [this,ifB_true,w64_id (by omega)]
   rfl) (n:Int) ⟨n,rfl,Nat.le_refl _,hn⟩
 exact hf
end Go.G
