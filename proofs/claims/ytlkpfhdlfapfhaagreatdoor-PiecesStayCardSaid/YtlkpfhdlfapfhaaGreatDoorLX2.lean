/- LX2: PiecesStay. In plain Lean, no program in sight. -/
import Derived.Test.YtlkpfhdlfapfhaaGreatDoorLX0
import Derived.Test.YtlkpfhdlfapfhaaGreatDoorLU5
import Derived.Test.YtlkpfhdlfapfhaaGreatDoorLU6
import Derived.Test.YtlkpfhdlfapfhaaGreatDoorLEd
import Derived.Test.YtlkpfhdlfapfhaaGreatDoorLEc
import Derived.Test.YtlkpfhdlfapfhaaGreatDoorLR1g
namespace Go.G
open Go Go.J
set_option linter.unusedSimpArgs false
set_option linter.unusedVariables false
theorem spoilTn (l:List TTone):∃ r,m_gleekeep2_spoil_api_Tone l=some r:=spoil_tot _ m_gleekeep2_spoil_api_Tone_l1 (fun _ _ _=>rfl) l
theorem ne0 {k:Int} (h:¬ k=0):(k != 0)=true:=by simpa using h
theorem eq0 {k:Int} (h:k=0):(k != 0)=false:=by simpa using h
section
variable {b:List TBar} {t:List TTone} {k:Int}
theorem Played_tot (h1:m_piece_CheckTones b t=some k) (h3:k=0→cB b=0∧Fills b t false):∃ v,m_piece_Played b t=some v:=by
 unfold m_piece_Played
 rw [h1,Option.bind_some]
 by_cases hk:k=0
 ·obtain ⟨hc,hf⟩:=h3 hk
  obtain ⟨pl,p1,-⟩:=played_eq hc hf
  rw [eq0 hk,ifB_false,p1]; exact ⟨_,rfl⟩
 ·rw [ne0 hk,ifB_true]; exact ⟨_,rfl⟩
theorem Joined_tot (h1:m_piece_CheckTones b t=some k) (h3:k=0→cB b=0∧Fills b t false):∃ v,m_piece_Joined b t=some v:=by
 unfold m_piece_Joined
 rw [h1,Option.bind_some]
 by_cases hk:k=0
 ·obtain ⟨hc,hf⟩:=h3 hk
  rw [eq0 hk,ifB_false,Joined_spec hf.good hf.len hf.ch]; exact ⟨_,rfl⟩
 ·rw [ne0 hk,ifB_true]; exact ⟨_,rfl⟩
theorem InBars_tot (h1:m_piece_CheckTones b t=some k) (h3:k=0→cB b=0∧Fills b t false) (hb:b.length≤600):∃ v,m_piece_InBars b t=some v:=by
 unfold m_piece_InBars
 rw [h1,Option.bind_some]
 by_cases hk:k=0
 ·obtain ⟨hc,hf⟩:=h3 hk
  obtain ⟨-,r,hg,-⟩:=cB_zero hc
  obtain ⟨gs,g1,-⟩:=inBars_eq (goB_all b _ r hg) hb hf
  rw [eq0 hk,ifB_false,g1]; exact ⟨_,rfl⟩
 ·rw [ne0 hk,ifB_true]; exact ⟨_,rfl⟩
theorem Shift_tot (h1:m_piece_CheckTones b t=some k) (hl:t.length≤1000000) (a:Int):∃ v,m_piece_Shift b t a=some v:=by
 by_cases hk:k=0
 ·subst hk
  obtain ⟨v,h,-⟩:=Shift_spec (a:=a) hl h1
  exact ⟨v,h⟩
 ·unfold m_piece_Shift
  rw [h1,Option.bind_some,ne0 hk,ifB_true]; exact ⟨_,rfl⟩
end
theorem Merge_stay {b:List TBar} (hbl:b.length≤600) {parts:List ByteArray} (hpl:parts.length≤100000) {x:List TEdit} (hx:∀ e∈x,EOk e) (hxl:x.length≤12):∃ v,m_piece_Merge b parts x []=some v:=by
 obtain ⟨k,h1,h2,h3⟩:=CheckEdits_E b hbl parts hpl x hx (by omega)
 unfold m_piece_Merge
 rw [h1,Option.bind_some]
 by_cases h0:k=0
 ·rw [eq0 h0,ifB_false]
  obtain ⟨hc,hp,hX⟩:=h3 h0
  obtain ⟨ky,k1,k2,k3⟩:=checkEdits_E hbl (good_of hc) parts [] (fun e he=>by cases he) (by simp)
  rw [k1,Option.bind_some]
  by_cases hy0:ky=0
  ·rw [eq0 hy0,ifB_false,Concat_E x [] (by simp; omega),Option.bind_some]
   obtain ⟨m',g1⟩:=prog_add (x++[]) [] [] 0 (by simp; omega) (fun e he=>by rw [List.append_nil] at he; exact (hx e he).len) (fun e=>rfl)
   rw [addE_self x [] [] (by simpa using hX.nd),List.nil_append] at g1
   have g2:addE x []=some x:=rfl
   rw [g2] at g1
   rw [g1,Option.bind_some]
   simp only
   rw [fin_brk]
   simp only
   obtain ⟨m,s1,-,s2⟩:=sortP_E x hxl
   have hn:x.Nodup:=(List.pairwise_map.1 hX.nd).imp (fun h e=>h (congrArg kE e))
   rw [decide_eq_false (show ¬ (x.length:Int)>1000 by omega),ifB_false,permG_of s1 hn s2]
   exact ⟨_,rfl⟩
  ·rw [ne0 hy0,ifB_true]; exact ⟨_,rfl⟩
 ·rw [ne0 h0,ifB_true]; exact ⟨_,rfl⟩
theorem Written_tot {b:List TBar} (hbl:b.length≤600) {parts:List ByteArray} (hpl:parts.length≤100000) {x:List TEdit} (hx:∀ e∈x,EOk e) (hxl:x.length≤12) (p:ByteArray) (a:Int):∃ v,m_piece_Written b parts x p a=some v:=by
 obtain ⟨k,-,h2,-⟩:=CheckEdits_E b hbl parts hpl x hx (by omega)
 obtain ⟨w,e,h,-⟩:=Written_E hbl hpl hx (by omega) p a h2
 exact ⟨_,h⟩
theorem rows_tot {α : Type} {ρ : Type} (g : α → List TTone) (st : α → List TTone → α) (step:Nat → α → List α → Option (Flow (List α) ρ))
  (hst:∀ i x u,step i x u=(getI u (i:Int)).bind fun e=>(m_gleekeep2_spoil_api_Tone (g e)).bind fun y=>some (.nxt (u.set ((i:Int).toNat) (st e y)))) (l:List α):∃ u,rangeM step 0 l l=some (.brk u):=by
 obtain ⟨u,h1,h2⟩:=rangeM_invx step l (fun _ u=>u.length=l.length) (by
  intro i x u hx hu
  have hi:=(List.getElem?_eq_some_iff.1 hx).1
  rw [hst,getI_of rfl (List.getElem?_eq_getElem (by omega)),Option.bind_some]
  obtain ⟨r,hr⟩:=spoilTn (g (u[i]'(by omega)))
  rw [hr,Option.bind_some]
  exact ⟨_,rfl,by rw [List.length_set]; exact hu⟩) l rfl
 exact ⟨u,h1⟩
theorem EqB (l:List TBar):m_slices_Equal_api_Bar_api_Bar l l=some true:=eq_refl (m_slices_Equal_api_Bar_api_Bar_l1 l) l fun i x hx=>by
 unfold m_slices_Equal_api_Bar_api_Bar_l1
 rw [getI_of rfl hx,Option.bind_some,decide_eq_true rfl]; rfl
theorem EqT (l:List TTone):m_slices_Equal_api_Tone_api_Tone l l=some true:=eq_refl (m_slices_Equal_api_Tone_api_Tone_l1 l) l fun i x hx=>by
 unfold m_slices_Equal_api_Tone_api_Tone_l1
 rw [getI_of rfl hx,Option.bind_some,decide_eq_true rfl]; rfl
theorem orderE (x:TEdit):m_gleeref2_EditOrder x x=some 0:=by
 unfold m_gleeref2_EditOrder
 rw [show (x.At != x.At)=false from bne_self_eq_false _,ifB_false,show (!(x.By.toList==x.By.toList))=false by simp,ifB_false,Int.sub_self]
 rfl
theorem sameE (x:TEdit):m_gleeref2_SameEdit x x=some true:=by
 unfold m_gleeref2_SameEdit
 simp [EqT,orderE,ifB_true]
theorem EqE (l:List TEdit):m_slices_EqualFunc_api_Edit_api_Edit_api_Edit_api_Edit__gleeref2_SameEdit l l=some true:=eq_refl (m_slices_EqualFunc_api_Edit_api_Edit_api_Edit_api_Edit__gleeref2_SameEdit_l1 l) l fun i x hx=>by
 unfold m_slices_EqualFunc_api_Edit_api_Edit_api_Edit_api_Edit__gleeref2_SameEdit_l1
 rw [getI_of rfl hx,Option.bind_some,sameE]; rfl
theorem PiecesStay_true (L:List Int):m_gleekeep2_PiecesStay L=some true:=by
 unfold m_gleekeep2_PiecesStay
 obtain ⟨b,q0,h1,-,hb,h2,h3⟩:=RightBars_spec L
 obtain ⟨t,q1,g1,g2,g3,g4,g5⟩:=TonesFor_spec L b (p:=q0) hb (by omega) (by omega)
 obtain ⟨e,q2,e1,e2,e3,e4,e5⟩:=Edits_spec L b (by omega) (p:=q1) (n:=5) (by omega) (by omega) (by omega) (by omega)
 have e4:e.length=5:=by omega
 obtain ⟨k,k1,k2,k3⟩:=CheckTones_spec b (by omega) t g5 (by omega)
 rw [h1,Option.bind_some,Option.bind_some]
 simp only
 rw [g1,Option.bind_some,Option.bind_some]
 simp only
 rw [e1,Option.bind_some,Option.bind_some]
 simp only
 generalize hN:[(ByteArray.mk [97,108,116,111].toArray),(ByteArray.mk [98,97,115,115].toArray)]=names
 have hnl:names.length≤100000:=by rw [← hN]; simp
 obtain ⟨v1,p1⟩:=Played_tot k1 k3
 obtain ⟨v2,p2⟩:=Joined_tot k1 k3
 obtain ⟨v3,p3⟩:=Shift_tot k1 (by omega) 1
 obtain ⟨v4,p4⟩:=Written_tot (b:=b) (by omega) hnl e5 (by omega) (ByteArray.mk [97,108,116,111].toArray) 20
 obtain ⟨v5,p5⟩:=InBars_tot k1 k3 (by omega)
 obtain ⟨v6,p6⟩:=Merge_stay (b:=b) (by omega) hnl e5 (by omega)
 have f1:∀ (a:List TTone) (z:Int),m_gleekeep2_first_api_Tone a z=some a:=fun _ _=>rfl
 rw [p1,Option.bind_some,f1,Option.bind_some,p2,Option.bind_some,f1,Option.bind_some,p3,Option.bind_some,f1,Option.bind_some,p4,Option.bind_some,f1,Option.bind_some]
 obtain ⟨u1,r1⟩:=rows_tot (fun x=>x) (fun _ y=>y) m_gleekeep2_PiecesStay_l1 (fun _ _ _=>rfl) [v1.1,v2.1,v3.1,v4.1]
 rw [r1,Option.bind_some,fin_brk,p5,Option.bind_some]
 obtain ⟨u2,r2⟩:=rows_tot (fun x=>x) (fun _ y=>y) m_gleekeep2_PiecesStay_l2 (fun _ _ _=>rfl) v5.1
 rw [r2,Option.bind_some,fin_brk,p6,Option.bind_some]
 obtain ⟨u3,r3⟩:=rows_tot (fun x:TEdit=>x.Tones) (fun e80 y83=>TEdit.mk e80.By e80.No e80.At e80.Part e80.Bar y83) m_gleekeep2_PiecesStay_l3 (fun _ _ _=>rfl) v6.1
 rw [r3,Option.bind_some,fin_brk,EqB,Option.bind_some,ifB_true,EqT,Option.bind_some,ifB_true,EqE,Option.bind_some,ifB_true,ready_true]
 rfl
end Go.G
