/- LEd: edits as they are drawn; EditsMerge. In plain Lean, no program in sight. -/
import Derived.Test.YtlkpfhdlfapfhaaGreatDoorLEc
import Derived.Test.YtlkpfhdlfapfhaaGreatDoorLG2
namespace Go.G
open Go Go.J
set_option linter.unusedSimpArgs false
set_option linter.unusedVariables false
theorem EditOrder_total (a b:TEdit):∃ c,m_gleeref2_EditOrder a b=some c:=by
 have hs:∀ n,∃ c,m_gleeref2_sign n=some c:=fun n=>by unfold m_gleeref2_sign; cases decide (n<0) <;> cases decide (n>0) <;> exact ⟨_,rfl⟩
 unfold m_gleeref2_EditOrder
 obtain ⟨c1,h1⟩:=hs (w64 (a.At - b.At))
 obtain ⟨c2,h2⟩:=hs (w64 (a.No - b.No))
 rw [h1,h2,show m_strings_Compare a.By b.By=some _ from rfl]
 cases (a.At != b.At) <;> cases (!(a.By.toList==b.By.toList)) <;> exact ⟨_,rfl⟩
theorem StableE (u:List TEdit) (hl:u.length<20):∃ m,m_slices_SortStableFunc_api_Edit_api_Edit__gleeref2_EditOrder u=some m∧m.Perm u∧isM m_gleeref2_EditOrder u 0 (u.length:Int)=some m:=by
 have e0:∀ (v:List TEdit) a b,m_slices_insertionSortCmpFunc_api_Edit__gleeref2_EditOrder v a b=isM m_gleeref2_EditOrder v a b:=fun _ _ _=>rfl
 obtain ⟨m,h1,h2⟩:=isM_total m_gleeref2_EditOrder u (by omega) (fun x _ y _=>EditOrder_total x y)
 unfold m_slices_SortStableFunc_api_Edit_api_Edit__gleeref2_EditOrder m_slices_stableCmpFunc_api_Edit__gleeref2_EditOrder
 have g2:m_slices_stableCmpFunc_api_Edit__gleeref2_EditOrder_l1 (u.length:Int) (0,20,u)=some (.brk (0,20,u)):=by
  unfold m_slices_stableCmpFunc_api_Edit__gleeref2_EditOrder_l1
  simp only
  rw [decide_eq_false (by omega),ifB_false]
 rw [loopM_step g2,run_brk,Option.bind_some,fin_brk,e0]
 simp only
 rw [h1,Option.bind_some]
 have g4:m_slices_stableCmpFunc_api_Edit__gleeref2_EditOrder_l2 (u.length:Int) (20,0,20)=some (.brk (20,0,20)):=by
  unfold m_slices_stableCmpFunc_api_Edit__gleeref2_EditOrder_l2
  simp only
  rw [decide_eq_false (by omega),ifB_false]
 rw [loopM_step g4,run_brk]
 exact ⟨m,rfl,h2,rfl⟩
theorem tone_bar1 (L:List Int) (left p:Int) (out:List TTone) (hl0:0≤left) (hl:left≤3072) (hp:0≤p) (hp':p≤50000) (ho:out.length≤2000) (hok:∀ x∈out,TOk x) :
  ∃ q out' z,loopM (m_gleemake_Stream_TonesFor_l2 L) (left,p,out)=some (.brk (z,q,out'))∧p≤q∧q≤p+520∧out'.length≤out.length+130∧(∀ x∈out',TOk x)∧(0<left→out.length<out'.length):=by
 obtain ⟨f,h1,h2⟩:=loopM_post (m_gleemake_Stream_TonesFor_l2 L)
  (fun s=>0≤s.1∧s.1≤3072∧(∃ k:Nat,s.2.2.length=out.length+k∧p≤s.2.1∧s.2.1≤p+4*k∧(24*(k:Int)+s.1≤3072∨(s.1=0∧24*(k:Int)≤3072+24))∧(k=0→s.1=left))∧∀ x∈s.2.2,TOk x)
  (fun s=>s.1.toNat) (fun f=>∃ z q out',f = .brk (z,q,out')∧p≤q∧q≤p+520∧out'.length≤out.length+130∧(∀ x∈out',TOk x)∧(0<left→out.length<out'.length)) (by
   rintro ⟨l,r,o⟩ ⟨a1,a2,⟨k,a3,a4,a5,a6,a8⟩,a7⟩
   simp only at a1 a2 a3 a4 a5 a6 a7 a8 ⊢
   by_cases h0:l>0
   ·left
    obtain ⟨n,q,o',e1,e2,e3,e4,e5,e6,e7,e8⟩:=tone_round L l r o h0 a2 (by omega) (by omega) (by omega) a7
    refine ⟨_,e1,⟨by simp only; omega,by simp only; omega,⟨k+1,by simp only; omega,by simp only; omega,by simp only; omega,?_,fun h=>absurd h (by omega)⟩,e8⟩,by simp only; omega⟩
    simp only
    rcases e2 with e2 | e2
    ·right; omega
    ·left; omega
   ·right; left
    refine ⟨_,by unfold m_gleemake_Stream_TonesFor_l2; simp only [decide_eq_false h0,ifB_false],l,r,o,rfl,a4,by omega,by omega,a7,fun hp=>by
     by_cases hk:k=0
     ·have:=a8 hk
      omega
     ·omega⟩) (left,p,out) ⟨hl0,hl,⟨0,by simp,by simp,by simp,.inl (by simpa using hl),fun _=>rfl⟩,hok⟩
 obtain ⟨z,q,out',rfl,b1,b2,b3,b4,b5⟩:=h2
 exact ⟨q,out',z,h1,b1,b2,b3,b4,b5⟩
theorem TonesFor1 (L:List Int) (x:TBar) {p:Int} (hp:0≤p) (hp':p≤50000) :
  ∃ t q,m_gleemake_Stream_TonesFor L p [x]=some (t,q)∧p≤q∧q≤p+520∧0<t.length∧t.length≤130∧(∀ y∈t,TOk y):=by
 unfold m_gleemake_Stream_TonesFor
 rw [rangeM_cons]
 unfold m_gleemake_Stream_TonesFor_l1
 have b1:192≤(max 1 (min x.Beats 16))*192:=by omega
 have b2:(max 1 (min x.Beats 16))*192≤3072:=by omega
 have b3:1≤max 1 (min x.Unit 16)∧max 1 (min x.Unit 16)≤16:=by omega
 generalize (max 1 (min x.Beats 16))*192=n at b1 b2
 generalize max 1 (min x.Unit 16)=d at b3
 have c1:1≤n.tdiv d:=by
  rw [Int.tdiv_eq_ediv_of_nonneg (by omega)]
  exact (Int.le_ediv_iff_mul_le (by omega)).2 (by omega)
 have c2:n.tdiv d≤n:=by
  rw [Int.tdiv_eq_ediv_of_nonneg (by omega)]
  exact Int.ediv_le_self _ (by omega)
 rw [w64_id (by omega),quoM_of (by omega),Option.bind_some,w64_id (by omega)]
 obtain ⟨q,o',z,e1,e2,e3,e4,e5,e6⟩:=tone_bar1 L (n.tdiv d) p [] (by omega) (by omega) (by omega) (by omega) (by simp) (by simp)
 simp only
 rw [e1]
 exact ⟨o',q,rfl,e2,e3,by have:=e6 (by omega); simpa using this,by simpa using e4,e5⟩
theorem slice_one {b:List TBar} {i:Int} (h0:0≤i) (h1:i<b.length) (hb:b.length≤600):∃ x,sliceI b i (w64 (i+1))=some [x]∧x∈b:=by
 have hlt:i.toNat<b.length:=by omega
 have hx:b[i.toNat]? = some b[i.toNat]:=List.getElem?_eq_getElem hlt
 refine ⟨b[i.toNat],?_,List.mem_of_getElem? hx⟩
 rw [w64_id (by omega),sliceI_of (a:=i.toNat) (b:=i.toNat+1) (by omega) (by omega) (by omega) (by omega),show i.toNat+1 - i.toNat=1 by omega,List.take_one,List.head?_drop,hx]
 rfl
theorem editTones (L:List Int) (b:List TBar) (hb:b.length≤600) {i p:Int} (hi:0≤i) (hi':1≤max 1 (b.length:Int)→i<max 1 (b.length:Int)) (hp:0≤p) (hp':p≤40000) :
  ∃ q t,(ifB (decide ((b.length:Int)>0)) ((sliceI b i (w64 (i+1))).bind fun q25=>(m_gleemake_Stream_TonesFor L p q25).bind fun y26=>((getI y26.1 (w64 ((y26.1.length:Int) - 1))).bind fun e31=>ifB (e31.Note != (-1)) ((m_gleemake_Stream_Flip L y26.2 3).bind fun y32=>some (.inl (y32.1,y32.2))) (some (.inl (false,y26.2))):Option ((Bool × Int) ⊕ ((Int × (List TTone)) ⊕ Flow (Int × Int × (List (ByteArray × Int)) × (List TEdit)) ((List TEdit) × Int)))).bind fun k30=>Sum.fin k30 fun u28=>ifB u28.1 ((getI y26.1 (w64 ((y26.1.length:Int) - 1))).bind fun e33=>some (.inl (u28.2,(y26.1.set ((w64 ((y26.1.length:Int) - 1)).toNat) (TTone.mk e33.Note e33.Long e33.Text true))))) (some (.inl (u28.2,y26.1)))) (some (.inl (p,[]))):Option ((Int × (List TTone)) ⊕ (Flow (Int × Int × (List (ByteArray × Int)) × (List TEdit)) ((List TEdit) × Int))))=some (.inl (q,t))∧p≤q∧q≤p+522∧t.length≤130∧(∀ y∈t,TOk y):=by
 by_cases h0:(b.length:Int)>0
 ·obtain ⟨x,h1,-⟩:=slice_one (b:=b) hi (by have:=hi' (by omega); omega) hb
  obtain ⟨t,q,h2,h3,h4,h5,h6,h7⟩:=TonesFor1 L x hp (by omega)
  have hg:t[t.length - 1]? = some (t[t.length - 1]'(by omega)):=List.getElem?_eq_getElem _
  have hok:=h7 _ (List.mem_of_getElem? hg)
  rw [decide_eq_true h0,ifB_true,h1,Option.bind_some,h2,Option.bind_some]
  simp only
  rw [w64_id (n:=(t.length:Int) - 1) (by omega),getI_of (n:=t.length - 1) (by omega) hg,Option.bind_some]
  obtain ⟨f,hf⟩:=Flip_spec L (p:=q) (n:=3) (by omega) (by omega) (by omega)
  have hset:∀ y∈t.set (((t.length:Int) - 1)).toNat (TTone.mk (t[t.length - 1]'(by omega)).Note (t[t.length - 1]'(by omega)).Long (t[t.length - 1]'(by omega)).Text true),TOk y:=tone_set h7 ⟨hok.num,hok.den,hok.text⟩
  by_cases hn:(t[t.length - 1]'(by omega)).Note = -1
  ·rw [show ((t[t.length - 1]'(by omega)).Note != -1)=false by simpa using hn,ifB_false,Option.bind_some,fin_inl]
   exact ⟨q,t,rfl,h3,by omega,h6,h7⟩
  ·rw [show ((t[t.length - 1]'(by omega)).Note != -1)=true by simpa using hn,ifB_true,hf,Option.bind_some,Option.bind_some,fin_inl]
   cases f with
   | false=>exact ⟨q+1,t,rfl,by omega,by omega,h6,h7⟩
   | true=>exact ⟨q+1,_,rfl,by omega,by omega,by rw [List.length_set]; exact h6,hset⟩
 ·rw [decide_eq_false h0]
  exact ⟨p,[],rfl,by omega,by omega,by simp,by simp⟩
theorem editWild (L:List Int) (m:List (ByteArray × Int)) (by0 part0:ByteArray) (at0 d bar0:Int) (ts:List TTone) (hts:ts.length≤130) (hok:∀ y∈ts,TOk y) (f:Bool) {p:Int} (hp:0≤p) (hp':p≤50000) :
  ∃ (q:Int) (a:ByteArray) (n at_:Int) (part:ByteArray) (bar:Int) (t:List TTone),(ifB f ((m_gleemake_Stream_Next L p 3).bind fun y40=>ifB (y40.1==0) ((m_gleemake_Stream_Some L y40.2 [ByteArray.empty,by0]).bind fun y42=>(m_gleemake_Stream_Odd L y42.2 1 5).bind fun y43=>(m_gleemake_Stream_Odd L y43.2 0 20).bind fun y44=>some (.inl (y44.2,y42.1,y43.1,y44.1,part0,bar0,ts))) (ifB (y40.1==1) ((m_gleemake_Stream_Some L y40.2 [(ByteArray.mk [97,108,116,111].toArray),(ByteArray.mk [122,122].toArray)]).bind fun y46=>(m_gleemake_Stream_Odd L y46.2 0 3).bind fun y47=>some (.inl (y47.2,by0,((lkM (putM m by0 (w64 (((lkM m by0).getD 0)+1))) by0).getD 0),w64 (at0+d),y46.1,y47.1,ts))) ((appM 48 ts [(TTone.mk 60 (TFraction.mk 1 4) ByteArray.empty false)]).bind fun q49=>some (.inl (y40.2,by0,((lkM (putM m by0 (w64 (((lkM m by0).getD 0)+1))) by0).getD 0),w64 (at0+d),part0,bar0,q49))))) (some (.inl (p,by0,((lkM (putM m by0 (w64 (((lkM m by0).getD 0)+1))) by0).getD 0),w64 (at0+d),part0,bar0,ts))):Option ((Int × ByteArray × Int × Int × ByteArray × Int × (List TTone)) ⊕ (Flow (Int × Int × (List (ByteArray × Int)) × (List TEdit)) ((List TEdit) × Int))))=some (.inl (q,a,n,at_,part,bar,t))∧p≤q∧q≤p+10∧t.length≤131∧(∀ y∈t,TOk y):=by
 cases f with
 | false=>exact ⟨p,by0,_,_,part0,bar0,ts,rfl,by omega,by omega,by omega,hok⟩
 | true =>
  obtain ⟨r,h1,h2,-⟩:=Next_spec L (p:=p) (n:=3) hp (by omega) (by omega)
  rw [ifB_true,h1,Option.bind_some]
  simp only
  by_cases e0:r=0
  ·obtain ⟨v,g1,-⟩:=Some_spec L (p:=p+1) [ByteArray.empty,by0] (by omega) (by omega) (by simp) (by simp)
   obtain ⟨n,q2,g2,g3,g4⟩:=Odd_spec L (p:=p+1+1) (a:=1) (b:=5) (by omega) (by omega) (by omega) (by omega) (by omega)
   obtain ⟨w,q3,g5,g6,g7⟩:=Odd_spec L (p:=q2) (a:=0) (b:=20) (by omega) (by omega) (by omega) (by omega) (by omega)
   rw [show (r==0)=true by simpa using e0,ifB_true,g1,Option.bind_some]
   simp only
   rw [g2,Option.bind_some]
   simp only
   rw [g5,Option.bind_some]
   exact ⟨q3,_,_,_,_,_,ts,rfl,by omega,by omega,by omega,hok⟩
  ·rw [show (r==0)=false by simpa using e0,ifB_false]
   by_cases e1:r=1
   ·obtain ⟨v,g1,-⟩:=Some_spec L (p:=p+1) [(ByteArray.mk [97,108,116,111].toArray),(ByteArray.mk [122,122].toArray)] (by omega) (by omega) (by simp) (by simp)
    obtain ⟨n,q2,g2,g3,g4⟩:=Odd_spec L (p:=p+1+1) (a:=0) (b:=3) (by omega) (by omega) (by omega) (by omega) (by omega)
    rw [show (r==1)=true by simpa using e1,ifB_true,g1,Option.bind_some]
    simp only
    rw [g2,Option.bind_some]
    exact ⟨q2,_,_,_,_,_,ts,rfl,by omega,by omega,by omega,hok⟩
   ·rw [show (r==1)=false by simpa using e1,ifB_false,appM_of (by simp; omega) (by omega),Option.bind_some]
    exact ⟨p+1,_,_,_,_,_,_,rfl,by omega,by omega,by simp; omega,tone_add hok ⟨by unfold inW; simp,by unfold inW; simp,by decide⟩⟩
theorem Edits_spec (L:List Int) (b:List TBar) (hb:b.length≤600) {p n:Int} (hp:0≤p) (hp':p≤20000) (hn:0≤n) (hn':n≤12) :
  ∃ l q,m_gleemake_Stream_Edits L p b n=some (l,q)∧p≤q∧q≤p+600*n∧l.length=n∧(∀ e∈l,EOk e):=by
 unfold m_gleemake_Stream_Edits
 rw [rangeI_of (by omega),Option.bind_some]
 obtain ⟨⟨at_,p1,m,out⟩,h1,h2,h3,h4,h5⟩:=rangeM_invx (m_gleemake_Stream_Edits_l1 L b) (List.range n.toNat) (fun i s=>p≤s.2.1∧s.2.1≤p+600*i∧s.2.2.2.length=i∧∀ e∈s.2.2.2,EOk e) (by
  rintro i x ⟨at0,p0,m,out⟩ hx ⟨a1,a2,a3,a4⟩
  have hi:i<n.toNat:=by have:=(List.getElem?_eq_some_iff.1 hx).1; simpa using this
  simp only at a1 a2 a3 a4
  unfold m_gleemake_Stream_Edits_l1
  obtain ⟨d,g1,-⟩:=Pick_spec L (p:=p0) [0,1,5] (by omega) (by omega) (by simp) (by simp)
  obtain ⟨by0,g2,-⟩:=Some_spec L (p:=p0+1) [(ByteArray.mk [97,110,110].toArray),(ByteArray.mk [98,111,98].toArray)] (by omega) (by omega) (by simp) (by simp)
  obtain ⟨part0,g3,-⟩:=Some_spec L (p:=p0+1+1) [(ByteArray.mk [97,108,116,111].toArray),(ByteArray.mk [97,108,116,111].toArray),(ByteArray.mk [98,97,115,115].toArray)] (by omega) (by omega) (by simp) (by simp)
  obtain ⟨bar0,g4,g5,g6⟩:=Next_spec L (p:=p0+1+1+1) (n:=max 1 (b.length:Int)) (by omega) (by omega) (by omega)
  obtain ⟨q,ts,g7,g8,g9,g10,g11⟩:=editTones L b hb (i:=bar0) (p:=p0+1+1+1+1) g5 g6 (by omega) (by omega)
  obtain ⟨f,g12⟩:=Flip_spec L (p:=q) (n:=60) (by omega) (by omega) (by omega)
  obtain ⟨q2,a,no,at2,part,bar,t,k1,k2,k3,k4,k5⟩:=editWild L m by0 part0 at0 d bar0 ts g10 g11 f (p:=q+1) (by omega) (by omega)
  simp only
  rw [g1,Option.bind_some]
  simp only
  rw [g2,Option.bind_some]
  simp only
  rw [g3,Option.bind_some]
  simp only
  rw [g4,Option.bind_some]
  simp only
  rw [g7,Option.bind_some,fin_inl]
  simp only
  rw [g12,Option.bind_some]
  simp only
  rw [k1,Option.bind_some,fin_inl]
  simp only
  rw [appM_of (by simp; omega) (by omega),Option.bind_some]
  refine ⟨_,rfl,by simp only; omega,by simp only; omega,by simp; omega,fun e he=>?_⟩
  rcases List.mem_append.1 he with h | h
  ·exact a4 e h
  ·rw [List.mem_singleton.1 h]
   exact ⟨k5,by simp only; omega,by simp only; omega⟩) (0,p,[],[]) ⟨by simp,by simp,by simp,by simp⟩
 simp only at h2 h3 h4 h5
 rw [List.length_range] at h3 h4
 rw [h1,Option.bind_some,fin_brk]
 simp only
 obtain ⟨w,k1,k2,-⟩:=StableE out (by omega)
 rw [k1,Option.bind_some]
 exact ⟨w,p1,rfl,h2,by omega,by rw [k2.length_eq]; omega,fun e he=>h5 e (k2.mem_iff.1 he)⟩
end Go.G
