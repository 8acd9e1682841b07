/- LSd: slots that are drawn. In plain Lean, no program in sight. -/
import Derived.Test.YtkeieikpobfapaaGreatDoorLSl
import Derived.Test.YtkeieikpobfapaaGreatDoorLS2
import Derived.Test.YtkeieikpobfapaaGreatDoorLM
import Derived.Test.YtkeieikpobfapaaGreatDoorLDo
namespace Go.G
open Go Go.J
set_option linter.unusedSimpArgs false
set_option linter.unusedVariables false
theorem CompareI_tot (a b:Int):∃ c,m_cmp_Compare_int a b=some c:=⟨_,cI_s a b⟩
theorem CompareS_tot (a b:ByteArray):∃ c,m_cmp_Compare_string a b=some c:=by
 unfold m_cmp_Compare_string m_cmp_isNaN_string
 have e1:∀ z:ByteArray,(!(z.toList==z.toList))=false:=by simp
 rw [e1,e1,Option.bind_some,Option.bind_some,ifB_false,ifB_false]
 cases (Op.bytesLess a.toList b.toList)
 ·rw [ifB_false,Bool.false_or]
  cases (a.toList==b.toList)
  ·exact ⟨_,rfl⟩
  ·exact ⟨_,rfl⟩
 ·exact ⟨_,rfl⟩
theorem CmpI1 (a b:Int):∃ c,m_slices_Compare_int_int [a] [b]=some c:=by
 obtain ⟨c,hc⟩:=CompareI_tot a b
 unfold m_slices_Compare_int_int
 rw [rangeM_cons]
 unfold m_slices_Compare_int_int_l1
 rw [show (decide (((0:Nat):Int)≥(([b]:List Int).length:Int)))=false from rfl,ifB_false,show getI [b] ((0:Nat):Int)=some b from rfl,Option.bind_some,hc,Option.bind_some]
 cases (c != 0)
 ·exact ⟨_,rfl⟩
 ·exact ⟨_,rfl⟩
theorem CmpS1 (a b:ByteArray):∃ c,m_slices_Compare_string_string [a] [b]=some c:=by
 obtain ⟨c,hc⟩:=CompareS_tot a b
 unfold m_slices_Compare_string_string
 rw [rangeM_cons]
 unfold m_slices_Compare_string_string_l1
 rw [show (decide (((0:Nat):Int)≥(([b]:List ByteArray).length:Int)))=false from rfl,ifB_false,show getI [b] ((0:Nat):Int)=some b from rfl,Option.bind_some,hc,Option.bind_some]
 cases (c != 0)
 ·exact ⟨_,rfl⟩
 ·exact ⟨_,rfl⟩
theorem slotOrd_tot (a b:TSlot):∃ c,m_gleemake_Stream_RightSlots_1 a b=some c:=by
 unfold m_gleemake_Stream_RightSlots_1
 obtain ⟨c,hc⟩:=CmpI1 a.Time.From b.Time.From
 rw [hc,Option.bind_some]
 cases (c != 0)
 ·obtain ⟨d,hd⟩:=CmpS1 a.Key b.Key
  exact ⟨d,by rw [ifB_false,hd,Option.bind_some]⟩
 ·exact ⟨c,rfl⟩
theorem sortSl (u:List TSlot) (h:u.length≤12):∃ m,m_slices_SortFunc_api_Slot_api_Slot__gleemake_Stream_RightSlots_1 u=some m∧m.Perm u:=by
 obtain ⟨m,h1,h2⟩:=isM_total m_gleemake_Stream_RightSlots_1 u (by omega) fun x _ y _=>slotOrd_tot x y
 refine ⟨m,?_,h2⟩
 have e0:∀ (v:List TSlot) a b,m_slices_insertionSortCmpFunc_api_Slot__gleemake_Stream_RightSlots_1 v a b=isM m_gleemake_Stream_RightSlots_1 v a b:=fun _ _ _=>rfl
 unfold m_slices_SortFunc_api_Slot_api_Slot__gleemake_Stream_RightSlots_1 m_bits_Len m_bits_Len64
 rw [show IntKind.wrap .u64 (u.length:Int)=u.length by rw [IntKind.wrap_u64]; omega,if_pos (by omega)]
 simp only [Option.bind_some]
 unfold m_slices_pdqsortCmpFunc_api_Slot__gleemake_Stream_RightSlots_1
 have h3:∀ k,m_slices_pdqsortCmpFunc_api_Slot__gleemake_Stream_RightSlots_1_l1 u 0 (u.length:Int) k ()=some (.ret m):=fun k=>by
  unfold m_slices_pdqsortCmpFunc_api_Slot__gleemake_Stream_RightSlots_1_l1
  rw [w64_id (by omega),decide_eq_true (by omega),ifB_true,e0,h1]; rfl
 rw [loopM_step (h3 _)]; rfl
structure SlotDr (x:TSlot):Prop where
 key:x.Key.size≤40
 room:x.Room.size≤40
 piece:x.Piece.size≤40
 len:x.Parts.length≤12
 parts:∀ z∈x.Parts,1≤z.size∧z.size≤40
 time:(0≤x.Time.From∧x.Time.From≤1000000)∧(0≤x.Time.To∧x.Time.To≤1000000)
structure SlI (p0:Int) (i:Nat) (s:Int × Int × (List (ByteArray × Int)) × (List TSlot)):Prop where
 a:0≤s.1∧s.1≤200*(i:Int)
 p:OKp (p0+20*i) s.2.1
 f:∀ k,0≤(lkM s.2.2.1 k).getD 0∧(lkM s.2.2.1 k).getD 0≤200*(i:Int)
 l:s.2.2.2.length≤i
 g:∀ x∈s.2.2.2,SlotDr x
theorem RightSlots_l1 (L:List Int) (p0:Int) (hp0:0≤p0) (hp1:p0≤1000000) (i:Nat) (hi:i<10) (x:ByteArray) (hx:x.size≤40) (s:Int × Int × (List (ByteArray × Int)) × (List TSlot)) (h:SlI p0 i s):∃ s',m_gleemake_Stream_RightSlots_l1 L i x s=some (.nxt s')∧SlI p0 (i+1) s':=by
 obtain ⟨a,p,fr,out⟩:=s
 obtain ⟨h1,h2,h3,h4,h5⟩:=h
 simp only at h1 h2 h3 h4 h5
 suffices hs:∃ r,m_gleemake_Stream_RightSlots_l1 L i x (a,p,fr,out)=some r∧∃ s',r = .nxt s'∧SlI p0 (i+1) s' by
  obtain ⟨r,e,s',rfl,g⟩:=hs
  exact ⟨s',e,g⟩
 unfold m_gleemake_Stream_RightSlots_l1
 simp only
 refine dr_Flip h2 (by omega) (by omega) fun b q1=>?_
 cases b with
 | true =>
  refine ⟨_,rfl,_,rfl,?_⟩
  refine ⟨⟨h1.1,by simp only; omega⟩,?_,fun k=>?_,by simp only; omega,h5⟩
  ·unfold OKp at *; simp only at *; omega
  ·have:=h3 k; simp only; omega
 | false =>
  simp only [ifB_false]
  refine dr_Pick q1 (by omega) (by simp) (by simp) fun v q2 hv=>?_
  have hv1:0≤v∧v≤40:=by
   simp only [List.mem_cons,List.not_mem_nil,or_false] at hv
   omega
  refine dr_Some q2 (by omega) (by simp) (by simp) fun room q3 hr=>?_
  refine dr_Some q3 (by omega) (by simp) (by simp) fun piece q4 hpc=>?_
  refine dr_Pick q4 (by omega) (by simp) (by simp) fun w q5 hw=>?_
  have hw1:0≤w∧w≤60:=by
   simp only [List.mem_cons,List.not_mem_nil,or_false] at hw
   omega
  have hrs:room.size≤40:=by
   simp only [List.mem_cons,List.not_mem_nil,or_false] at hr
   rcases hr with rfl | rfl | rfl <;> decide
  have hps:piece.size≤40:=by
   simp only [List.mem_cons,List.not_mem_nil,or_false] at hpc
   rcases hpc with rfl | rfl | rfl <;> decide
  have hfr:=h3 room
  simp only
  rw [w64_id (show _ by omega:-9223372036854775808≤a+v∧a+v≤9223372036854775807)]
  obtain ⟨u,g1,g2,g3,g4⟩:=rangeM_invx (m_gleemake_Stream_RightSlots_l2 L) [(ByteArray.mk [97,108,116,111].toArray),(ByteArray.mk [98,97,115,115].toArray)] (fun j u=>OKp (p0+20*i+1+1+1+1+1+j) u.1∧u.2.length≤j∧∀ z∈u.2,1≤z.size∧z.size≤40) (by
   rintro j z ⟨q,ps⟩ hz ⟨k1,k2,k3⟩
   have hj:=(List.getElem?_eq_some_iff.1 hz).1
   simp only [List.length_cons,List.length_nil] at hj
   have hzs:1≤z.size∧z.size≤40:=by
    have:=List.mem_of_getElem? hz
    simp only [List.mem_cons,List.not_mem_nil,or_false] at this
    rcases this with rfl | rfl <;> decide
   simp only at k1 k2 k3
   suffices hs:∃ r,m_gleemake_Stream_RightSlots_l2 L j z (q,ps)=some r∧∃ s',r = .nxt s'∧OKp (p0+20*i+1+1+1+1+1+((j+1:Nat):Int)) s'.1∧s'.2.length≤j+1∧∀ z∈s'.2,1≤z.size∧z.size≤40 by
    obtain ⟨r,e,s',rfl,g⟩:=hs
    exact ⟨s',e,g⟩
   unfold m_gleemake_Stream_RightSlots_l2
   simp only
   refine dr_Flip k1 (by omega) (by omega) fun b q1=>?_
   cases b with
   | true =>
    simp only [ifB_true]
    rw [appM_of (by simp; omega) (by omega),Option.bind_some]
    refine ⟨_,rfl,_,rfl,?_,by simp; omega,fun y hy=>?_⟩
    ·unfold OKp at *; simp only; omega
    ·rcases List.mem_append.1 hy with g | g
     ·exact k3 y g
     ·rw [List.mem_singleton.1 g]; exact hzs
   | false =>
    simp only [ifB_false]
    refine ⟨_,rfl,_,rfl,?_,by simp only; omega,k3⟩
    unfold OKp at *; simp only; omega) (p+1+1+1+1+1,[]) ⟨by unfold OKp at *; simp only at *; omega,by simp,by simp⟩
  rw [g1,Option.bind_some,fin_brk]
  have hm1:max (a+v) ((lkM fr room).getD 0)≤200*(i:Int)+40:=by omega
  have hm0:0≤max (a+v) ((lkM fr room).getD 0):=by omega
  generalize max (a+v) ((lkM fr room).getD 0)=m at hm1 hm0
  rw [w64_id (by omega),appM_of (by simp; omega) (by omega),Option.bind_some]
  simp only [List.length_cons,List.length_nil] at g2 g3
  refine ⟨_,rfl,_,rfl,⟨hm0,by simp only; omega⟩,?_,fun k=>?_,by simp; omega,fun y hy=>?_⟩
  ·unfold OKp at *; simp only; omega
  ·simp only
   rw [lkM_put]
   have:=h3 k
   split
   ·simp only [Option.getD_some]; omega
   ·omega
  ·rcases List.mem_append.1 hy with g | g
   ·exact h5 y g
   ·rw [List.mem_singleton.1 g]
    exact ⟨hx,hrs,hps,by simp only; omega,g4,⟨hm0,by simp only; omega⟩,by simp only; omega,by simp only; omega⟩
theorem RightSlots_spec (L:List Int) {p:Int} (n:Nat) (hn:n≤5) (hp:0≤p) (hp':p≤1000000):∃ l q,m_gleemake_Stream_RightSlots L p (n:Int)=some (l,q)∧0≤q∧q≤p+100∧l.length≤5∧∀ x∈l,SlotDr x:=by
 unfold m_gleemake_Stream_RightSlots
 rw [sliceI_of (lo:=0) (a:=0) (b:=n) rfl rfl (Nat.zero_le _) (by simpa using hn),Option.bind_some]
 simp only [List.drop_zero,Nat.sub_zero]
 obtain ⟨s,h1,h2⟩:=rangeM_invx (m_gleemake_Stream_RightSlots_l1 L) ([(ByteArray.mk [115,98].toArray),(ByteArray.mk [115,97].toArray),(ByteArray.mk [115,99].toArray),(ByteArray.mk [115,100].toArray),(ByteArray.mk [115,101].toArray)].take n) (fun i s=>SlI p i s) (by
  intro i x s hx hI
  have hi:=(List.getElem?_eq_some_iff.1 hx).1
  rw [List.length_take] at hi
  refine RightSlots_l1 L p hp hp' i (by omega) x ?_ s hI
  have:=List.take_subset _ _ (List.mem_of_getElem? hx)
  simp only [List.mem_cons,List.not_mem_nil,or_false] at this
  rcases this with rfl | rfl | rfl | rfl | rfl <;> decide) (0,p,[],[]) ⟨by simp,by unfold OKp; simp; omega,fun k=>by simp [lkM],by simp,by simp⟩
 obtain ⟨a,q,fr,out⟩:=s
 obtain ⟨g1,g2,g3,g4,g5⟩:=h2
 have hlen:([(ByteArray.mk [115,98].toArray),(ByteArray.mk [115,97].toArray),(ByteArray.mk [115,99].toArray),(ByteArray.mk [115,100].toArray),(ByteArray.mk [115,101].toArray)].take n).length≤5:=by rw [List.length_take]; simp; omega
 simp only at g2 g4 g5
 obtain ⟨m,k1,k2⟩:=sortSl out (by omega)
 rw [h1,Option.bind_some,fin_brk]
 simp only
 rw [k1,Option.bind_some]
 unfold OKp at g2
 exact ⟨m,q,rfl,g2.1,by omega,by rw [k2.length_eq]; omega,fun x hx=>g5 x (k2.mem_iff.1 hx)⟩
theorem CloneS (l:List ByteArray) (h:l.length≤1000):m_slices_Clone_string_string l=some l:=by
 unfold m_slices_Clone_string_string
 rw [appM_of (by simp; omega) (by omega)]; rfl
theorem Slots_spec (L:List Int) {p:Int} (n:Nat) (hn:n≤5) (hp:0≤p) (hp':p≤900000):∃ l q,m_gleemake_Stream_Slots L p (n:Int)=some (l,q)∧0≤q∧q≤p+200∧l.length≤5:=by
 unfold m_gleemake_Stream_Slots
 obtain ⟨l,q,h1,h2,h3,h4,h5⟩:=RightSlots_spec L n hn hp (by omega)
 rw [h1,Option.bind_some]
 have hb:∃ b q1,(ifB (decide ((l.length:Int)>0)) ((m_gleemake_Stream_Flip L q 12).bind fun y7=>some (.inl (y7.1,y7.2))) (some (.inl (false,q))):Option ((Bool × Int) ⊕ ((List TSlot) × Int)))=some (.inl (b,q1))∧0≤q1∧q1≤q+1∧(b=true→0<l.length):=by
  by_cases h0:l.length>0
  ·obtain ⟨v,hv⟩:=Flip_spec L (p:=q) (n:=12) h2 (by omega) (by omega)
   rw [decide_eq_true (by omega),ifB_true,hv]
   exact ⟨v,q+1,rfl,by omega,by omega,fun _=>h0⟩
  ·rw [decide_eq_false (by omega),ifB_false]
   exact ⟨false,q,rfl,h2,by omega,fun h=>by cases h⟩
 obtain ⟨b,q1,hb,hb1,hb2,hb3⟩:=hb
 simp only
 rw [hb,Option.bind_some,fin_inl]
 cases b with
 | false=>exact ⟨l,q1,rfl,hb1,by omega,h4⟩
 | true =>
  have hl:=hb3 rfl
  simp only [ifB_true]
  suffices hs:∃ r,((m_gleemake_Stream_Next L q1 (l.length:Int)).bind fun y8=>(getI l y8.1).bind fun e9=>(m_gleemake_Stream_Next L y8.2 3).bind fun y10=>ifB (y10.1==0) ((m_gleemake_Stream_Some L y10.2 [e9.Key,ByteArray.empty,(ByteArray.mk [115,97].toArray)]).bind fun y12=>(m_gleemake_Stream_Some L y12.2 [e9.Room,(ByteArray.mk [99,101,108,108,97,114].toArray)]).bind fun y14=>(m_gleemake_Stream_Some L y14.2 [e9.Piece,(ByteArray.mk [65].toArray)]).bind fun y16=>some ((((l.set y8.1.toNat (TSlot.mk y12.1 e9.Room e9.Piece e9.Parts e9.Time)).set y8.1.toNat (TSlot.mk y12.1 y14.1 e9.Piece e9.Parts e9.Time)).set y8.1.toNat (TSlot.mk y12.1 y14.1 y16.1 e9.Parts e9.Time)),y16.2)) (ifB (y10.1==1) ((m_slices_Clone_string_string e9.Parts).bind fun y93=>(m_gleemake_Stream_Some L y10.2 [(ByteArray.mk [122,122].toArray),ByteArray.empty,(ByteArray.mk [97,108,116,111].toArray)]).bind fun y96=>(appM 16 y93 [y96.1]).bind fun q98=>some ((l.set y8.1.toNat (TSlot.mk e9.Key e9.Room e9.Piece q98 e9.Time)),y96.2)) ((m_gleemake_Stream_Odd L y10.2 0 100).bind fun y101=>(m_gleemake_Stream_Odd L y101.2 1 200).bind fun y102=>some ((l.set y8.1.toNat (TSlot.mk e9.Key e9.Room e9.Piece e9.Parts (TWindow.mk y101.1 y102.1))),y102.2))))=some r∧(0≤r.2∧r.2≤q1+50∧r.1.length≤5) by
   obtain ⟨⟨r1,r2⟩,e,g1,g2,g3⟩:=hs
   exact ⟨r1,r2,e,g1,by simp only at g2; omega,g3⟩
  have hk:OKp q1 q1:=⟨hb1,Int.le_refl _⟩
  refine dr_Next hk (by omega) (by omega) fun v r1 hv1 hv2=>?_
  have hvl:=hv2 (by omega)
  simp only
  rw [getI_of (n:=v.toNat) (by omega) (List.getElem?_eq_getElem (by omega)),Option.bind_some]
  have hpl:=(h5 (l[v.toNat]'(by omega)) (List.getElem_mem _)).len
  refine dr_Next r1 (by omega) (by omega) fun w r2 _ _=>?_
  refine ex_if ?_ (ex_if ?_ ?_)
  ·refine dr_Some r2 (by omega) (by simp) (by simp) fun _ r3 _=>?_
   refine dr_Some r3 (by omega) (by simp) (by simp) fun _ r4 _=>?_
   refine dr_Some r4 (by omega) (by simp) (by simp) fun _ r5 _=>?_
   unfold OKp at r5
   exact ⟨_,rfl,by simp only; omega,by simp only; omega,by simpa using h4⟩
  ·rw [CloneS _ (by omega),Option.bind_some]
   refine dr_Some r2 (by omega) (by simp) (by simp) fun _ r3 _=>?_
   rw [appM_of (by simp; omega) (by omega),Option.bind_some]
   unfold OKp at r3
   exact ⟨_,rfl,by simp only; omega,by simp only; omega,by simpa using h4⟩
  ·refine dr_Odd r2 (by omega) (by omega) (by omega) (by omega) fun _ r3=>?_
   refine dr_Odd r3 (by omega) (by omega) (by omega) (by omega) fun _ r4=>?_
   unfold OKp at r4
   exact ⟨_,rfl,by simp only; omega,by simp only; omega,by simpa using h4⟩
end Go.G
