/- LCo1: Open and Vote as the reference has them. In plain Lean, no program in sight. -/
import Derived.Test.YtlkpfhdlfapfhadGreatDoorLVo0
import Derived.Test.YtlkpfhdlfapfhadGreatDoorLY5
namespace Go.G
open Go Go.J
set_option linter.unusedSimpArgs false
set_option linter.unusedVariables false
theorem aG5 {l:List TAct} {a:Int} (hl:ActsOK l):M7 l a=some ((ae1 ((j7 l a).mo.map Prod.fst)).filter (O0 (j7 l a).mo)):=by
 have hlen:=bh2 l a hl.len
 unfold M7
 rw [aa0 l a hl,Option.bind_some]
 simp only
 have hk:(cMo (j7 l a).mo).map Prod.fst=(j7 l a).mo.map Prod.fst:=by unfold cMo mpV; rw [List.map_map]; rfl
 rw [hk]
 refine ao0 fun L hL=>?_
 have hLl:L.length≤2000:=by rw [hL.length_eq,List.length_map]; exact hlen
 have hloop:l8 (Z4 (cSt (j7 l a).st,(j7 l a).pd,cMo (j7 l a).mo,(j7 l a).rf)) 0 L []=some (.brk (L.filter (O0 (j7 l a).mo))):=by
  obtain ⟨s,h1,h2⟩:=Q8 (Z4 (cSt (j7 l a).st,(j7 l a).pd,cMo (j7 l a).mo,(j7 l a).rf)) L (fun i s=>s=(L.take i).filter (O0 (j7 l a).mo)) (by
   rintro i x s hx rfl
   have hi:=(List.getElem?_eq_some_iff.1 hx).1
   have hle:((L.take i).filter (O0 (j7 l a).mo)).length≤i:=Nat.le_trans (List.length_filter_le ..) (by simp; omega)
   have e1:(L.take (i+1)).filter (O0 (j7 l a).mo)=(L.take i).filter (O0 (j7 l a).mo)++if O0 (j7 l a).mo x then [x] else []:=by
    rw [List.take_add_one,hx,List.filter_append]
    simp only [Option.toList_some,List.filter_cons,List.filter_nil]
   have hmem:x∈(j7 l a).mo.map Prod.fst:=hL.subset (List.mem_of_getElem? hx)
   have hh:G3 (j7 l a).mo x=true:=(Y1 _ _).2 hmem
   rw [av4] at hh
   obtain ⟨t,ht⟩:=Option.isSome_iff_exists.1 hh
   unfold Z4
   have hc:lkM (cMo (j7 l a).mo) x=some (cM t):=by unfold cMo; rw [ao6,ht]; rfl
   simp only
   rw [hc,K4,e1]
   have ho:O0 (j7 l a).mo x = !t.1:=by unfold O0; rw [ht]
   rw [ho]
   rw [show (cM t).1 = !t.1 from rfl]
   cases t.1
   ·rw [Bool.not_false,j9,Q7 (by simp; omega) (by omega),Option.bind_some]
    exact ⟨_,rfl,rfl⟩
   ·rw [Bool.not_true,j4]
    exact ⟨_,rfl,by simp⟩) [] rfl
  rw [h1,h2,List.take_length]
 rw [hloop,Option.bind_some,D5,bk7 _ (by have:=List.length_filter_le (O0 (j7 l a).mo) L; omega),Option.bind_some,aM4 hL]
structure EnOK (q:TFraction) (E:Nat→Nat→Bool):Prop where
 en:∀ n o:Nat,n≤1000000→o≤1000000→W6 (n:Int) (o:Int) q=some (E n o)
 re:∀ n o:Nat,n<o→o≤1000000→L4 (n:Int) (o:Int) q=some (E n o)
 mono:∀ n m o:Nat,n≤m→E n o=true→E m o=true
 top:∀ o:Nat,E o o=true
theorem bE2 (n:Nat):List.range (n+2)=0::1::(List.range n).map (· + 2):=by
 rw [List.range_succ_eq_map,List.range_succ_eq_map,List.map_cons,List.map_map]; rfl
theorem bM8:EnOK ⟨1,2⟩ (fun n o=>decide (o≤2*n)) where
 en:=fun n o hn ho=>bp6 n o hn ho
 re:=fun n o hlt ho=>by
  unfold L4
  rw [ax2 (by omega),Option.bind_some,show (200:Int).toNat=198+2 from rfl,bE2,o5]
  unfold ad7
  simp only
  have q1:aK2 (n:Int) (o:Int)=some 0:=by
   rw [aV3 (by omega),Int.tdiv_eq_ediv_of_nonneg (by omega),Int.ediv_eq_zero_of_lt (by omega) (by omega)]; rfl
  have r1:aI3 (n:Int) (o:Int)=some (n:Int):=by
   rw [aG9 (by omega),Int.tmod_eq_emod_of_nonneg (by omega),Int.emod_eq_of_lt (by omega) (by omega)]
  rw [q1,Option.bind_some,show aK2 1 2=some 0 by decide,Option.bind_some,show ((0:Int) != 0)=false from rfl,j4,r1,Option.bind_some,show aI3 1 2=some 1 by decide,Option.bind_some,show ((1:Int)==0)=false from rfl,j4]
  by_cases h0:n=0
  ·subst h0
   rw [show (((0:Nat):Int)==0)=true from rfl,j9,Option.bind_some]
   show some false=_
   rw [decide_eq_false (by omega)]
  ·rw [show ((n:Int)==0)=false by simpa using h0,j4,Option.bind_some,D8,o5]
   simp only
   have hdm:=Nat.div_add_mod o n
   have hml:=Nat.mod_lt o (show 0<n by omega)
   have q2:aK2 (o:Int) (n:Int)=some ((o / n:Nat):Int):=by
    have:=Nat.div_le_self o n
    rw [aV3 (by omega),Int.tdiv_eq_ediv_of_nonneg (by omega),← Int.natCast_ediv]
    generalize o / n=z at this
    rw [A0 (by omega)]
   have r2:aI3 (o:Int) (n:Int)=some ((o % n:Nat):Int):=by
    rw [aG9 (by omega),Int.tmod_eq_emod_of_nonneg (by omega),← Int.natCast_emod]
   rw [show aK2 2 1=some 2 by decide,Option.bind_some,q2,Option.bind_some]
   by_cases h2:o / n=2
   ·rw [h2,show ((2:Int) != ((2:Nat):Int))=false from rfl,j4,show aI3 2 1=some 0 by decide,Option.bind_some,r2,Option.bind_some]
    rw [h2] at hdm
    by_cases h3:o % n=0
    ·rw [h3,show (((0:Nat):Int)==0)=true from rfl,j9,Option.bind_some]
     show some true=_
     rw [decide_eq_true (by omega)]
    ·rw [show (((o % n:Nat):Int)==0)=false by rw [beq_eq_false_iff_ne]; omega,j4,show ((0:Int)==0)=true from rfl,j9,Option.bind_some]
     show some false=_
     rw [decide_eq_false (by omega)]
   ·rw [show ((2:Int) != ((o / n:Nat):Int))=true by simp; omega,j9,Option.bind_some]
    show some (decide ((2:Int)>((o / n:Nat):Int)))=_
    congr 1
    rw [decide_eq_decide]
    constructor
    ·intro h
     have h4:o / n≤1:=by omega
     have:n*(o / n)≤n*1:=Nat.mul_le_mul_left _ h4
     omega
    ·intro h
     refine Int.not_le.1 fun h5=>?_
     have h4:3≤o / n:=by omega
     have:n*3≤n*(o / n):=Nat.mul_le_mul_left _ h4
     omega
 mono:=fun n m o h h2=>by simp only [decide_eq_true_eq] at h2 ⊢; omega
 top:=fun o=>by simp only [decide_eq_true_eq]; omega
theorem bL8:EnOK ⟨0,1⟩ (fun _ _=>true) where
 en:=fun n o hn ho=>by
  have wu:∀ m:Nat,m≤1000000→IntKind.wrap .u64 (m:Int)=(m:Int):=fun m hm=>by rw [IntKind.wrap_u64]; omega
  unfold W6 ah0
  rw [wu n hn,wu o ho,show IntKind.wrap .u64 (1:Int)=1 from rfl,show IntKind.wrap .u64 (0:Int)=0 from rfl]
  rw [if_pos (by omega),if_pos (by omega)]
  simp only [Option.bind_some,Int.toNat_natCast,show (0:Int).toNat=0 from rfl,show (1:Int).toNat=1 from rfl]
  rw [show n*1 / 18446744073709551616=0 by omega,show o*0 / 18446744073709551616=0 by omega,show n*1 % 18446744073709551616=n by omega,show o*0 % 18446744073709551616=0 by omega]
  rw [show decide (((0:Nat):Int)>((0:Nat):Int))=false from rfl,j4,show (((0:Nat):Int)==((0:Nat):Int))=true from rfl,j9]
  exact congrArg some (decide_eq_true (by omega))
 re:=fun n o hlt ho=>by
  unfold L4
  rw [ax2 (by omega),Option.bind_some,show (200:Int).toNat=198+2 from rfl,bE2,o5]
  unfold ad7
  simp only
  have q1:aK2 (n:Int) (o:Int)=some 0:=by
   rw [aV3 (by omega),Int.tdiv_eq_ediv_of_nonneg (by omega),Int.ediv_eq_zero_of_lt (by omega) (by omega)]; rfl
  have r1:aI3 (n:Int) (o:Int)=some (n:Int):=by
   rw [aG9 (by omega),Int.tmod_eq_emod_of_nonneg (by omega),Int.emod_eq_of_lt (by omega) (by omega)]
  rw [q1,Option.bind_some,show aK2 0 1=some 0 by decide,Option.bind_some,show ((0:Int) != 0)=false from rfl,j4,r1,Option.bind_some,show aI3 0 1=some 0 by decide,Option.bind_some,show ((0:Int)==0)=true from rfl,j9,Option.bind_some]
  rfl
 mono:=fun _ _ _ _ _=>rfl
 top:=fun _=>rfl
theorem aY8 {q:TFraction} {E:Nat→Nat→Bool} (h:EnOK q E) (u:List ByteArray) (hu:u.length≤1000000) :
  ∃ m:Nat,J2 (Z2 q u) 0=some (.brk (m:Int))∧∀ s:Nat,s≤u.length→decide ((s:Int)≥(m:Int))=E s u.length:=by
 obtain ⟨f,hf,m,rfl,h1,h2,h3⟩:=aA6 (Z2 q u) (fun s=>∃ i:Nat,s=(i:Int)∧i≤u.length∧∀ j,j<i→E j u.length=false) (fun s=>u.length - s.toNat)
  (fun f=>∃ m:Nat,f = .brk (m:Int)∧m≤u.length∧(∀ j,j<m→E j u.length=false)∧E m u.length=true) (by
  rintro s ⟨i,rfl,hi,hj⟩
  unfold Z2
  by_cases hlt:i<u.length
  ·rw [decide_eq_true (show (i:Int)<(u.length:Int) by omega),j9,h.re i u.length hlt hu,Option.bind_some,Option.bind_some,C9]
   cases he:E i u.length with
   | true=>right; left; exact ⟨(i:Int),rfl,i,rfl,hi,hj,he⟩
   | false =>
    left
    refine ⟨((i+1:Nat):Int),?_,⟨i+1,rfl,by omega,fun j hj2=>?_⟩,by show u.length - (((i+1:Nat):Int)).toNat<u.length - ((i:Int)).toNat; omega⟩
    ·rw [Bool.not_false,j9,A0 (by omega)]; rfl
    ·rcases Nat.lt_succ_iff_lt_or_eq.1 hj2 with h5 | h5
     ·exact hj j h5
     ·rw [h5]; exact he
  ·right; left
   refine ⟨(i:Int),?_,i,rfl,hi,hj,?_⟩
   ·rw [decide_eq_false (show ¬ (i:Int)<(u.length:Int) by omega),j4]; rfl
   ·have:i=u.length:=by omega
    rw [this]; exact h.top _) 0 ⟨0,rfl,Nat.zero_le _,fun j hj=>absurd hj (Nat.not_lt_zero _)⟩
 refine ⟨m,hf,fun s hs=>?_⟩
 by_cases hsm:m≤s
 ·rw [decide_eq_true (by omega),h.mono m s _ hsm h3]
 ·rw [decide_eq_false (by omega),h2 s (by omega)]
theorem bz3 {q:TFraction} {E:Nat→Nat→Bool} (h:EnOK q E) {l:List TAct} {a:Int} (hl:ActsOK l) (k:ByteArray) :
  ∃ t e,Z6 a (j7 l a).st (j7 l a).pd (j7 l a).mo (j7 l a).rf k q=some (t,e)∧M6 l k q a=some (t,e)∧(e=0→∃ y n o:Nat,t.Yes=y∧t.No=n∧t.Of=o∧y≤2000∧n≤2000∧o≤2000)∧(e≠0→e=8∧t.Yes=0∧t.No=0∧t.Of=0):=by
 have hb:=(am3 l a hl.len).2
 have hr:=fun k=>hb.rows (by omega) k
 have hmo:=bI9 l a hl.len
 unfold M6
 rw [aa0 l a hl,Option.bind_some]
 simp only
 have hc:lkM (cMo (j7 l a).mo) k=(lkM (j7 l a).mo k).map cM:=by unfold cMo; rw [ao6]
 rw [hc]
 unfold Z6
 cases hk:lkM (j7 l a).mo k with
 | none=>exact ⟨_,_,rfl,rfl,fun h=>absurd h (by decide),fun _=>⟨rfl,rfl,rfl,rfl⟩⟩
 | some t =>
  rw [K4,Option.map_some,K4]
  have ht:=hmo k t hk
  obtain ⟨t1,t2,t3⟩:=t
  have hml:(H7 (j7 l a).st).length≤2000:=by
   unfold H7
   refine Nat.le_trans (List.length_filter_le ..) ?_
   rw [an0,List.length_map]; exact hb.len
  have hmr:=aF7 (j7 l a).st (j7 l a).pd (cMo (j7 l a).mo) (j7 l a).rf hr (by have:=hb.len; omega)
  rw [hmr,Option.bind_some]
  cases t1
  ·simp only [cM,Bool.not_false,Bool.not_true,j9,j4,Option.bind_some,C9]
   rw [aA3 _ _ _ _ _ hr (by have:=hb.len; omega),Option.bind_some]
   obtain ⟨y,n,h1,h2⟩:=aT9 (ap9 (false,t2,t3)) t2 (fun i x u=>rfl) (H7 (j7 l a).st) hml
   have h1':l8 (ap5 (true,t3,t2)) 0 (H7 (j7 l a).st) (0,0)=some (.brk ((y:Int),(n:Int))):=h1
   obtain ⟨m,g1,g2⟩:=aY8 h (H7 (j7 l a).st) (by omega)
   have hle:=List.length_filter_le (fun x=>G3 t2 x) (H7 (j7 l a).st)
   rw [h1,Option.bind_some,D5,h1',Option.bind_some,D5,g1,Option.bind_some,D5]
   exact ⟨_,_,rfl,rfl,fun _=>⟨y,n,_,rfl,rfl,rfl,by omega,by omega,hml⟩,fun h=>absurd rfl h⟩
  ·simp only at ht
   simp only [cM,Bool.not_false,Bool.not_true,j9,j4,Option.bind_some,C9]
   obtain ⟨y,n,h1,h2⟩:=aT9 (ap8 (true,t2,t3)) t2 (fun i x u=>rfl) t3 ht
   have h1':l8 (ap7 (false,t3,t2)) 0 t3 (0,0)=some (.brk ((y:Int),(n:Int))):=h1
   obtain ⟨m,g1,g2⟩:=aY8 h t3 (by omega)
   have g1:J2 (ap6 q (false,t3,t2)) 0=some (.brk (m:Int)):=g1
   have hle:=List.length_filter_le (fun x=>G3 t2 x) t3
   rw [h1,Option.bind_some,D5,h1',Option.bind_some,D5,g1,Option.bind_some,D5]
   have hw:w64 ((y:Int)+(n:Int))=((y+n:Nat):Int):=by rw [A0 (by omega)]; omega
   by_cases hyn:n<y
   ·rw [decide_eq_true (show (y:Int)>(n:Int) by omega),j9,j9,hw,h.en (y+n) t3.length (by omega) (by omega),Option.bind_some,g2 (y+n) (by omega)]
    exact ⟨_,_,rfl,rfl,fun _=>⟨y,n,_,rfl,rfl,rfl,by omega,by omega,ht⟩,fun h=>absurd rfl h⟩
   ·rw [decide_eq_false (show ¬ (y:Int)>(n:Int) by omega),j4,j4]
    exact ⟨_,_,rfl,rfl,fun _=>⟨y,n,_,rfl,rfl,rfl,by omega,by omega,ht⟩,fun h=>absurd rfl h⟩
end Go.G
