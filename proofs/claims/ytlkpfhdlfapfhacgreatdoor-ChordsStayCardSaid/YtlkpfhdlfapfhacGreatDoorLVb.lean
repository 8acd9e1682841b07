/- LVb: voices as they are drawn. In plain Lean, no program in sight. -/
import Derived.Test.YtlkpfhdlfapfhacGreatDoorLVa
import Derived.Test.YtlkpfhdlfapfhacGreatDoorLG0
import Derived.Test.YtlkpfhdlfapfhacGreatDoorLG1
import Derived.Test.YtlkpfhdlfapfhacGreatDoorLDo
namespace Go.G
open Go Go.J
set_option linter.unusedSimpArgs false
set_option linter.unusedVariables false
theorem CloneV (l:List Int) (h:l.length≤1000):m_slices_Clone_int_int l=some l:=by
 unfold m_slices_Clone_int_int
 rw [appM_of (by simp; omega) (by omega)]
 simp
theorem Voices_l3 (L:List Int) (y33:Int × Int) (i:Nat) (x:Int) (p:Int) (hp:0≤p) (hp':p≤100000) (l:List Int) (hi:i<l.length):∃ l',m_gleemake_Stream_Voices_l3 L y33 i x (p,l)=some (.nxt (p+2,l'))∧l'.length=l.length:=by
 unfold m_gleemake_Stream_Voices_l3
 simp only
 have h0:l[i]? = some l[i]:=List.getElem?_eq_getElem hi
 rw [getI_of (n:=i) rfl h0,Option.bind_some]
 obtain ⟨r,h1,-,-⟩:=Range_spec L (p:=p) (a:=-5) (b:=5) hp (by omega) (by omega) (by omega) (by omega)
 rw [h1,Option.bind_some]
 obtain ⟨v,h2,-⟩:=Pick_spec L (p:=p+1) [y33.1,y33.1,y33.1,r,12] (by omega) (by omega) (by simp) (by simp)
 simp only
 rw [h2,Option.bind_some]
 simp only
 have e:((i:Int)).toNat=i:=by omega
 rw [Option.bind_some,e]
 have h3:(l.set i (w64 (l[i]+v)))[i]? = some (w64 (l[i]+v)):=List.getElem?_set_self hi
 rw [getI_of (n:=i) rfl h3,Option.bind_some,Option.bind_some]
 exact ⟨_,by rw [show p+1+1=p+2 by omega],by rw [List.length_set,List.length_set]⟩
theorem Voices_l2 (L:List Int) (i:Nat) (x:Nat) (p:Int) (hp:0≤p) (hp':p≤90000) (out:List (List Int)) (l:List Int) (hl:l.length≤4) (ho:out.length≤100):∃ q l',m_gleemake_Stream_Voices_l2 L i x (p,out,l)=some (.nxt (q,out++[l],l'))∧p≤q∧q≤p+20∧l'.length=l.length:=by
 unfold m_gleemake_Stream_Voices_l2
 simp only
 rw [CloneV l (by omega),Option.bind_some,appM_of (by simp; omega) (by omega),Option.bind_some]
 obtain ⟨r,h1,-,-⟩:=Range_spec L (p:=p) (a:=-3) (b:=3) hp (by omega) (by omega) (by omega) (by omega)
 rw [h1,Option.bind_some]
 simp only
 obtain ⟨⟨q,l'⟩,h2,h3⟩:=rangeM_invx (m_gleemake_Stream_Voices_l3 L (r,p+1)) l (fun i (s:Int × List Int)=>s.1=p+1+2*i∧s.2.length=l.length) (by
  rintro i x ⟨q,u⟩ hx ⟨rfl,hu⟩
  have hi:=(List.getElem?_eq_some_iff.1 hx).1
  simp only at hu
  obtain ⟨l',e1,e2⟩:=Voices_l3 L (r,p+1) i x (p+1+2*(i:Int)) (by omega) (by omega) u (by omega)
  exact ⟨_,e1,by show _=p+1+2*((i+1:Nat):Int); simp only; omega,by rw [← hu]; exact e2⟩) (p+1,l) ⟨by simp,rfl⟩
 rw [h2,Option.bind_some,fin_brk]
 obtain ⟨h4,h5⟩:=h3
 simp only at h4 h5
 exact ⟨q,l',rfl,by omega,by omega,h5⟩
theorem Voices_spec (L:List Int) {p:Int} (hp:0≤p) (hp':p≤50000):∃ v q,m_gleemake_Stream_Voices L p=some (v,q)∧p≤q∧q≤p+1000∧v.length≤5:=by
 unfold m_gleemake_Stream_Voices
 obtain ⟨n,h1,n0,n1⟩:=Range_spec L (p:=p) (a:=1) (b:=4) hp (by omega) (by omega) (by omega) (by omega)
 rw [h1,Option.bind_some]
 simp only
 rw [rangeI_of (by omega),Option.bind_some]
 obtain ⟨⟨q,u⟩,h2,h3⟩:=rangeM_invx (m_gleemake_Stream_Voices_l1 L) (List.range n.toNat) (fun i (s:Int × List Int)=>s.1=p+1+i∧s.2.length=i) (by
  rintro i x ⟨q,u⟩ hx ⟨rfl,hu⟩
  have hi:=(List.getElem?_eq_some_iff.1 hx).1
  rw [List.length_range] at hi
  simp only at hu
  unfold m_gleemake_Stream_Voices_l1
  simp only
  obtain ⟨r,e1,-,-⟩:=Range_spec L (p:=p+1+(i:Int)) (a:=-2) (b:=2) (by omega) (by omega) (by omega) (by omega) (by omega)
  rw [e1,Option.bind_some,appM_of (by simp; omega) (by omega)]
  exact ⟨_,rfl,by show _=p+1+((i+1:Nat):Int); simp only; omega,by simp [hu]⟩) (p+1,[]) ⟨by simp,rfl⟩
 rw [h2,Option.bind_some,fin_brk]
 rw [List.length_range] at h3
 obtain ⟨hq,hu⟩:=h3
 simp only at hq hu ⊢
 obtain ⟨m,h4,m0,m1⟩:=Range_spec L (p:=q) (a:=0) (b:=5) (by omega) (by omega) (by omega) (by omega) (by omega)
 rw [h4,Option.bind_some]
 simp only
 rw [rangeI_of (by omega),Option.bind_some]
 obtain ⟨⟨q2,out,l2⟩,h5,h6⟩:=rangeM_invx (m_gleemake_Stream_Voices_l2 L) (List.range m.toNat) (fun i (s:Int × List (List Int) × List Int)=>q+1≤s.1∧s.1≤q+1+20*i∧s.2.1.length=i∧s.2.2.length=u.length∧∀ is∈s.2.1,is.length=u.length) (by
  rintro i x ⟨q2,out,l2⟩ hx ⟨g1,g2,g3,g4,g5⟩
  have hi:=(List.getElem?_eq_some_iff.1 hx).1
  rw [List.length_range] at hi
  simp only at g1 g2 g3 g4 g5
  obtain ⟨q3,l3,e1,e2,e3,e4⟩:=Voices_l2 L i x q2 (by omega) (by omega) out l2 (by omega) (by omega)
  refine ⟨_,e1,?_,?_,?_,?_,?_⟩
  ·show q+1≤q3; omega
  ·show q3≤q+1+20*((i+1:Nat):Int); omega
  ·show (out++[l2]).length=i+1; rw [List.length_append,g3]; rfl
  ·show l3.length=u.length; omega
  ·intro is his
   rcases List.mem_append.1 his with h | h
   ·exact g5 is h
   ·rw [List.mem_singleton.1 h]; exact g4) (q+1,[],u) ⟨by simp,by simp,rfl,rfl,fun is h=>by cases h⟩
 rw [h5,Option.bind_some,fin_brk]
 rw [List.length_range] at h6
 obtain ⟨g1,g2,g3,g4,g5⟩:=h6
 simp only at g1 g2 g3 g4 g5 ⊢
 have key:∃ (c:Bool) (q':Int),q2≤q'∧q'≤q2+1∧(c=true→0<out.length)∧(ifB (decide ((out.length:Int)>0)) ((m_gleemake_Stream_Flip L q2 12).bind fun y59=>some (.inl (y59.1,y59.2))) (some (.inl (false,q2))):Option ((Bool × Int) ⊕ ((List (List Int)) × Int)))=some (.inl (c,q')):=by
  by_cases h:(out.length:Int)>0
  ·obtain ⟨c,e⟩:=Flip_spec L (p:=q2) (n:=12) (by omega) (by omega) (by omega)
   exact ⟨c,q2+1,by omega,by omega,fun _=>by omega,by rw [decide_eq_true h,ifB_true,e]; rfl⟩
  ·exact ⟨false,q2,by omega,by omega,fun h=>(by cases h),by rw [decide_eq_false h]; rfl⟩
 obtain ⟨c,q',k0,k1,k2,k3⟩:=key
 rw [k3,Option.bind_some,fin_inl]
 simp only
 cases c with
 | false=>exact ⟨out,q',rfl,by omega,by omega,by omega⟩
 | true =>
  have hy:=k2 rfl
  obtain ⟨r,e1,r0,r1⟩:=Next_spec L (p:=q') (n:=(out.length:Int)) (by omega) (by omega) (by omega)
  have r1:=r1 (by omega)
  obtain ⟨rm,rfl⟩:∃ rm:Nat,r=rm:=⟨r.toNat,by omega⟩
  have hrm:rm<out.length:=by omega
  have hg:out[rm]? = some out[rm]:=List.getElem?_eq_getElem hrm
  have hgl:=g5 _ (List.mem_of_getElem? hg)
  rw [ifB_true,e1,Option.bind_some]
  simp only
  rw [getI_of rfl hg,Option.bind_some]
  obtain ⟨v1,q1,e2,rfl⟩:=Odd_spec L (p:=q'+1) (a:=0) (b:=127) (by omega) (by omega) (by omega) (by omega) (by omega)
  rw [e2,Option.bind_some]
  simp only
  rw [appM_of (by simp; omega) (by omega),Option.bind_some]
  obtain ⟨k,e3,d0,d1⟩:=Range_spec L (p:=q'+1+2) (a:=0) (b:=1) (by omega) (by omega) (by omega) (by omega) (by omega)
  rw [e3,Option.bind_some]
  simp only
  rw [sliceI_of (a:=k.toNat) (b:=(out[rm]++[v1]).length) (by omega) rfl (by rw [List.length_append,List.length_singleton]; omega) (Nat.le_refl _),Option.bind_some,Option.bind_some]
  exact ⟨_,_,rfl,by omega,by omega,by rw [List.length_set]; omega⟩
end Go.G
