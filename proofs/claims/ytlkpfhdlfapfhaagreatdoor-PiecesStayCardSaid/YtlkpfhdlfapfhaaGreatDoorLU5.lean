/- LU5: drawn tones; the row of how tones fill bars. No program in sight. -/
import Derived.Test.YtlkpfhdlfapfhaaGreatDoorLU4
namespace Go.G
open Go Go.J
set_option linter.unusedSimpArgs false
theorem SomeT_spec (L:List Int) {p:Int} (xs:List ByteArray) (hp:0≤p) (hp':p≤1000000000) (hx:xs.length≠0) (hx':(xs.length:Int)≤4611686018427387904) :
  ∃ v,m_gleemake_Stream_Some L p xs=some (v,p+1)∧v∈xs:=by
 obtain ⟨r,h,h2,h3⟩:=Next_spec L (n:=xs.length) hp hp' hx'
 have h3:=h3 (by omega)
 have h4:r.toNat<xs.length:=by omega
 refine ⟨xs[r.toNat],?_,List.getElem_mem h4⟩
 unfold m_gleemake_Stream_Some
 rw [h]
 show (getI xs r).bind _=_
 rw [getI_of (n:=r.toNat) (by omega) (List.getElem?_eq_getElem h4)]; rfl
theorem lowF_inR (k:Nat) (hk:k≤1000000000):inW (lowF k 192).Num∧inW (lowF k 192).Den:=by
 have h1:(0:Int)≤(k:Int) / (Nat.gcd k 192:Int):=Int.ediv_nonneg (by omega) (by omega)
 have h2:(k:Int) / (Nat.gcd k 192:Int)≤k:=Int.ediv_le_self _ (by omega)
 have h3:(0:Int)≤(192:Int) / (Nat.gcd k 192:Int):=Int.ediv_nonneg (by omega) (by omega)
 have h4:(192:Int) / (Nat.gcd k 192:Int)≤192:=Int.ediv_le_self _ (by omega)
 exact ⟨⟨by show _≤(k:Int) / _; omega,by show (k:Int) / _≤_; omega⟩,⟨by show _≤(192:Int) / _; omega,by show (192:Int) / _≤_; omega⟩⟩
theorem tone_set {t:List TTone} {i:Nat} {y:TTone} (h:∀ x∈t,TOk x) (hy:TOk y):∀ x∈t.set i y,TOk x:=fun x hx=>by
 rcases List.mem_or_eq_of_mem_set hx with h1 | rfl
 ·exact h x h1
 ·exact hy
theorem tone_add {t:List TTone} {y:TTone} (h:∀ x∈t,TOk x) (hy:TOk y):∀ x∈t++[y],TOk x:=fun x hx=>by
 rcases List.mem_append.1 hx with h1 | h1
 ·exact h x h1
 ·simp at h1; subst h1; exact hy
theorem tone_round (L:List Int) (left p:Int) (out:List TTone) (hleft:0<left) (hl:left≤3072) (hp:0≤p) (hp':p≤100000) (ho:out.length≤5000) (hok:∀ x∈out,TOk x) :
  ∃ (n q:Int) (out':List TTone),m_gleemake_Stream_TonesFor_l2 L (left,p,out)=some (.nxt (left - n,q,out'))∧(n=left∨24≤n)∧1≤n∧n≤left∧p≤q∧q≤p+4∧out'.length=out.length+1∧(∀ x∈out',TOk x):=by
 obtain ⟨v,hv,hvm⟩:=Pick_spec L (p:=p) [24,48,48,64,96,192] (by omega) (by omega) (by simp) (by simp)
 obtain ⟨u,hu,-⟩:=Pick_spec L (p:=p+1) [60,60,62,64,67,48,(-1)] (by omega) (by omega) (by simp) (by simp)
 have hv24:24≤v∧v≤192:=by
  simp only [List.mem_cons,List.not_mem_nil,or_false] at hvm
  omega
 have hlow:=And.intro trivial <| low_ref (n:=min left v) (by omega) (by omega)
 have hinr:=lowF_inR (min left v).toNat (by omega)
 have hempty:(ByteArray.empty).size≤1000000:=by decide
 -- the text
 obtain ⟨tx,p2,htx,hts,hp2a,hp2b⟩:∃ (tx:ByteArray) (p2:Int),(∀ {τ : Type} (k:Int × ByteArray→Option τ),(ifB (u != (-1)) ((m_gleemake_Stream_Some L (p+1+1) [ByteArray.empty,ByteArray.empty,(ByteArray.mk [97].toArray),(ByteArray.mk [71,108,111,45].toArray),(ByteArray.mk [114,105,45].toArray),(ByteArray.mk [195,169].toArray),(ByteArray.mk [45].toArray)]).bind fun y27=>some (.inl (y27.2,y27.1))) (some (.inl (p+1+1,ByteArray.empty))):Option ((Int × ByteArray) ⊕ τ)).bind (fun z=>Sum.fin z k)=k (p2,tx))∧tx.size≤1000000∧p+2≤p2∧p2≤p+3:=by
  cases (u != (-1)) with
  | false=>exact ⟨ByteArray.empty,p+1+1,fun k=>rfl,hempty,by omega,by omega⟩
  | true =>
   obtain ⟨w,hw,hwm⟩:=SomeT_spec L (p:=p+1+1) [ByteArray.empty,ByteArray.empty,(ByteArray.mk [97].toArray),(ByteArray.mk [71,108,111,45].toArray),(ByteArray.mk [114,105,45].toArray),(ByteArray.mk [195,169].toArray),(ByteArray.mk [45].toArray)] (by omega) (by omega) (by simp) (by simp)
   refine ⟨w,p+1+1+1,fun k=>by rw [hw]; rfl,?_,by omega,by omega⟩
   simp only [List.mem_cons,List.not_mem_nil,or_false] at hwm
   rcases hwm with rfl | rfl | rfl | rfl | rfl | rfl | rfl <;> decide
 -- whether it is tied
 obtain ⟨b,p3,hb,hp3a,hp3b,hbo⟩:∃ (b:Bool) (p3:Int),(∀ {τ : Type} (k:Bool × Int→Option τ),(ifB (decide ((w64 ((out.length:Int) - 1))≥0)) ((getI out (w64 ((out.length:Int) - 1))).bind fun e31=>ifB (e31.Note==u) (ifB (u != (-1)) ((m_gleemake_Stream_Flip L p2 2).bind fun y32=>some (.inl (y32.1,y32.2))) (some (.inl (false,p2)))) (some (.inl (false,p2)))) (some (.inl (false,p2))):Option ((Bool × Int) ⊕ τ)).bind (fun z=>Sum.fin z k)=k (b,p3))∧p2≤p3∧p3≤p2+1∧(b=true→out≠[]):=by
  rw [w64_id (by omega)]
  by_cases h0:(out.length:Int) - 1≥0
  ·have hlt:out.length - 1<out.length:=by omega
   have hg:getI out ((out.length:Int) - 1)=some out[out.length - 1]:=getI_of (n:=out.length - 1) (by omega) (List.getElem?_eq_getElem hlt)
   obtain ⟨f,hf⟩:=Flip_spec L (p:=p2) (n:=2) (by omega) (by omega) (by omega)
   have hne:out≠[]:=fun h=>by rw [h] at h0; simp at h0
   simp only [decide_eq_true h0,ifB_true,hg,Option.bind_some]
   cases (out[out.length - 1].Note==u)
   ·exact ⟨false,p2,fun k=>rfl,by omega,by omega,fun _=>hne⟩
   ·cases (u != (-1))
    ·exact ⟨false,p2,fun k=>rfl,by omega,by omega,fun _=>hne⟩
    ·exact ⟨f,p2+1,fun k=>by rw [hf]; rfl,by omega,by omega,fun _=>hne⟩
  ·simp only [decide_eq_false h0,ifB_false]
   exact ⟨false,p2,fun k=>rfl,by omega,by omega,fun h=>by cases h⟩
 -- the tone before
 obtain ⟨tx2,out2,ho2,hts2,hol,hok2⟩:∃ (tx2:ByteArray) (out2:List TTone),(∀ {τ : Type} (k:ByteArray × List TTone→Option τ),(ifB b ((getI out (w64 ((out.length:Int) - 1))).bind fun e37=>some (.inl (ByteArray.empty,(out.set ((w64 ((out.length:Int) - 1)).toNat) (TTone.mk e37.Note e37.Long e37.Text true))))) (some (.inl (tx,out))):Option ((ByteArray × (List TTone)) ⊕ τ)).bind (fun z=>Sum.fin z k)=k (tx2,out2))∧tx2.size≤1000000∧out2.length=out.length∧(∀ x∈out2,TOk x):=by
  cases b with
  | false=>exact ⟨tx,out,fun k=>rfl,hts,rfl,hok⟩
  | true =>
   have hne:=hbo rfl
   have hpos:0<out.length:=List.length_pos_iff.2 hne
   have hlt:out.length - 1<out.length:=by omega
   rw [w64_id (by omega)]
   have hg:getI out ((out.length:Int) - 1)=some out[out.length - 1]:=getI_of (n:=out.length - 1) (by omega) (List.getElem?_eq_getElem hlt)
   have hx:=hok _ (List.getElem_mem hlt)
   refine ⟨ByteArray.empty,out.set ((out.length:Int) - 1).toNat ⟨out[out.length - 1].Note,out[out.length - 1].Long,out[out.length - 1].Text,true⟩,fun k=>by rw [hg]; rfl,hempty,by simp,tone_set hok ⟨hx.num,hx.den,hx.text⟩⟩
 unfold m_gleemake_Stream_TonesFor_l2
 simp only [decide_eq_true (show left>0 by omega),ifB_true,hv,hu,Option.bind_some,hlow.2.1,htx,hb,ho2]
 rw [appM_of (by simp; omega) (by omega),Option.bind_some,w64_id (by omega)]
 exact ⟨min left v,p3,_,rfl,by omega,by omega,by omega,by omega,by omega,by simp [hol],tone_add hok2 ⟨hinr.1,hinr.2,hts2⟩⟩
theorem tone_bar (L:List Int) (left p:Int) (out:List TTone) (hl0:0≤left) (hl:left≤3072) (hp:0≤p) (hp':p≤50000) (ho:out.length≤2000) (hok:∀ x∈out,TOk x) :
  ∃ q out' z,loopM (m_gleemake_Stream_TonesFor_l2 L) (left,p,out)=some (.brk (z,q,out'))∧p≤q∧q≤p+520∧out'.length≤out.length+130∧(∀ x∈out',TOk x):=by
 obtain ⟨f,h1,h2⟩:=loopM_post (m_gleemake_Stream_TonesFor_l2 L)
  (fun s=>0≤s.1∧s.1≤3072∧(∃ k:Nat,s.2.2.length=out.length+k∧p≤s.2.1∧s.2.1≤p+4*k∧(24*(k:Int)+s.1≤3072∨(s.1=0∧24*(k:Int)≤3072+24)))∧∀ x∈s.2.2,TOk x)
  (fun s=>s.1.toNat) (fun f=>∃ z q out',f = .brk (z,q,out')∧p≤q∧q≤p+520∧out'.length≤out.length+130∧∀ x∈out',TOk x) (by
   rintro ⟨l,r,o⟩ ⟨a1,a2,⟨k,a3,a4,a5,a6⟩,a7⟩
   simp only at a1 a2 a3 a4 a5 a6 a7 ⊢
   by_cases h0:l>0
   ·left
    obtain ⟨n,q,o',e1,e2,e3,e4,e5,e6,e7,e8⟩:=tone_round L l r o h0 a2 (by omega) (by omega) (by omega) a7
    refine ⟨_,e1,⟨by simp only; omega,by simp only; omega,⟨k+1,by simp only; omega,by simp only; omega,by simp only; omega,?_⟩,e8⟩,by simp only; omega⟩
    simp only
    rcases e2 with e2 | e2
    ·right; omega
    ·left; omega
   ·right; left
    refine ⟨_,by unfold m_gleemake_Stream_TonesFor_l2; simp only [decide_eq_false h0,ifB_false],l,r,o,rfl,a4,by omega,by omega,a7⟩) (left,p,out) ⟨hl0,hl,⟨0,by simp,by simp,by simp,.inl (by simpa using hl)⟩,hok⟩
 obtain ⟨z,q,out',rfl,b1,b2,b3,b4⟩:=h2
 exact ⟨q,out',z,h1,b1,b2,b3,b4⟩
theorem TonesFor_spec (L:List Int) (bs:List TBar) {p:Int} (hb:bs.length≤12) (hp:0≤p) (hp':p≤20000) :
  ∃ t q,m_gleemake_Stream_TonesFor L p bs=some (t,q)∧p≤q∧q≤p+6240∧t.length≤1560∧(∀ x∈t,TOk x):=by
 obtain ⟨s,h1,h2,h3,h4,h5⟩:=rangeM_invx (m_gleemake_Stream_TonesFor_l1 L) bs (fun i s=>p≤s.1∧s.1≤p+520*i∧s.2.length≤130*i∧∀ x∈s.2,TOk x) (by
  rintro i x ⟨r,o⟩ hx ⟨a1,a2,a3,a4⟩
  have hi:i<bs.length:=(List.getElem?_eq_some_iff.1 hx).1
  simp only at a1 a2 a3 a4
  unfold m_gleemake_Stream_TonesFor_l1
  have b1:192≤(max 1 (min x.Beats 16))*192:=by omega
  have b2:(max 1 (min x.Beats 16))*192≤3072:=by omega
  have b3:1≤max 1 (min x.Unit 16):=by omega
  generalize (max 1 (min x.Beats 16))*192=n at b1 b2
  generalize max 1 (min x.Unit 16)=d at b3
  have c1:0≤n.tdiv d:=Int.tdiv_nonneg (by omega) (by omega)
  have c2:n.tdiv d≤n:=by
   rw [Int.tdiv_eq_ediv_of_nonneg (by omega)]
   exact Int.ediv_le_self _ (by omega)
  rw [w64_id (by omega),quoM_of (by omega),Option.bind_some,w64_id (by omega)]
  obtain ⟨q,o',z,e1,e2,e3,e4,e5⟩:=tone_bar L (n.tdiv d) r o c1 (by omega) (by omega) (by omega) (by omega) a4
  rw [e1]
  exact ⟨_,rfl,by simp only; omega,by simp only; omega,by simp only; omega,e5⟩) (p,[]) ⟨by simp,by simp,by simp,by simp⟩
 refine ⟨s.2,s.1,by unfold m_gleemake_Stream_TonesFor; rw [h1]; rfl,h2,by omega,by omega,h5⟩
end Go.G
