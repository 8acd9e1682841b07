/- LSy: RehearsalsStay. In plain Lean, no program in sight. -/
import Derived.Test.YtadlgemefhfejacGreatDoorLRl
import Derived.Test.YtadlgemefhfejacGreatDoorLRs
import Derived.Test.YtadlgemefhfejacGreatDoorLCp
import Derived.Test.YtadlgemefhfejacGreatDoorLRq
import Derived.Test.YtadlgemefhfejacGreatDoorLR1g
namespace Go.G
open Go Go.J
set_option linter.unusedSimpArgs false
set_option linter.unusedVariables false
theorem sortCC (u:List TCame) (h:u.length≤12):∃ m,m_slices_SortFunc_api_Came_api_Came__rehearse_compareCame u=some m∧m.Perm u:=by
 obtain ⟨m,h1,h2⟩:=isM_total m_rehearse_compareCame u (by omega) fun x _ y _=>⟨_,cmpC_prog x y⟩
 refine ⟨m,?_,h2⟩
 have e0:∀ (v:List TCame) a b,m_slices_insertionSortCmpFunc_api_Came__rehearse_compareCame v a b=isM m_rehearse_compareCame v a b:=fun _ _ _=>rfl
 unfold m_slices_SortFunc_api_Came_api_Came__rehearse_compareCame m_bits_Len m_bits_Len64
 rw [show IntKind.wrap .u64 (u.length:Int)=u.length by rw [IntKind.wrap_u64]; omega,if_pos (by omega)]
 simp only [Option.bind_some]
 unfold m_slices_pdqsortCmpFunc_api_Came__rehearse_compareCame
 have h3:∀ k,m_slices_pdqsortCmpFunc_api_Came__rehearse_compareCame_l1 u 0 (u.length:Int) k ()=some (.ret m):=fun k=>by
  unfold m_slices_pdqsortCmpFunc_api_Came__rehearse_compareCame_l1
  rw [w64_id (by omega),decide_eq_true (by omega),ifB_true,e0,h1]; rfl
 rw [loopM_step (h3 _)]; rfl
theorem spoil_tot {α : Type} (z : α) (step:Nat → α → List α → Option (Flow (List α) (List α))) (hst:∀ i x u,step i x u=(getI u (i:Int)).bind fun _=>some (.nxt (u.set ((i:Int).toNat) z))) (l:List α):∃ r,((rangeM step 0 l l).bind fun f=>Flow.fin f fun u=>some u)=some r:=by
 obtain ⟨u,h1,h2⟩:=rangeM_invx step l (fun _ u=>u.length=l.length) (by
  intro i x u hx hu
  have hi:=(List.getElem?_eq_some_iff.1 hx).1
  rw [hst,getI_of rfl (List.getElem?_eq_getElem (by omega)),Option.bind_some]
  exact ⟨_,rfl,by rw [List.length_set]; exact hu⟩) l rfl
 exact ⟨u,by rw [h1]; rfl⟩
theorem spoilC (l:List TCame):∃ r,m_gleekeep2_spoil_api_Came l=some r:=spoil_tot (TCame.mk 0 ByteArray.empty false) m_gleekeep2_spoil_api_Came_l1 (fun _ _ _=>rfl) l
theorem spoilS (l:List ByteArray):∃ r,m_gleekeep2_spoil_string l=some r:=spoil_tot ByteArray.empty m_gleekeep2_spoil_string_l1 (fun _ _ _=>rfl) l
theorem spoilP (l:List TPair):∃ r,m_gleekeep2_spoil_api_Pair l=some r:=spoil_tot (TPair.mk ByteArray.empty ByteArray.empty) m_gleekeep2_spoil_api_Pair_l1 (fun _ _ _=>rfl) l
theorem eq_refl {α : Type} (step:Nat → α → Unit→Option (Flow Unit Bool)) (l:List α) (h:∀ (i:Nat) x,l[i]? = some x→step i x ()=some (.nxt ())):(ifB ((l.length:Int) != (l.length:Int)) (some false) ((rangeM step 0 l ()).bind fun f7=>Flow.fin f7 fun _=>some true))=some true:=by
 rw [show ((l.length:Int) != (l.length:Int))=false from bne_self_eq_false _,ifB_false]
 obtain ⟨s,h1,-⟩:=rangeM_invx step l (fun _ _=>True) (fun i x s hx _=>⟨(),h i x hx,trivial⟩) () trivial
 rw [h1]; rfl
theorem EqS (l:List ByteArray):m_slices_Equal_string_string l l=some true:=eq_refl (m_slices_Equal_string_string_l1 l) l fun i x hx=>by
 unfold m_slices_Equal_string_string_l1
 rw [getI_of rfl hx,Option.bind_some,show (!(x.toList==x.toList))=false by simp]; rfl
theorem EqG (l:List TSings):m_slices_Equal_api_Sings_api_Sings l l=some true:=eq_refl (m_slices_Equal_api_Sings_api_Sings_l1 l) l fun i x hx=>by
 unfold m_slices_Equal_api_Sings_api_Sings_l1
 rw [getI_of rfl hx,Option.bind_some,decide_eq_true rfl]; rfl
theorem EqC (l:List TCame):m_slices_Equal_api_Came_api_Came l l=some true:=eq_refl (m_slices_Equal_api_Came_api_Came_l1 l) l fun i x hx=>by
 unfold m_slices_Equal_api_Came_api_Came_l1
 rw [getI_of rfl hx,Option.bind_some,decide_eq_true rfl]; rfl
theorem EqW (l:List TWish):m_slices_Equal_api_Wish_api_Wish l l=some true:=eq_refl (m_slices_Equal_api_Wish_api_Wish_l1 l) l fun i x hx=>by
 unfold m_slices_Equal_api_Wish_api_Wish_l1
 rw [getI_of rfl hx,Option.bind_some,decide_eq_true rfl]; rfl
theorem same_refl (x:TSlot):m_gleeref2_SameSlot x x=some true:=by
 unfold m_gleeref2_SameSlot
 rw [show (x.Key.toList==x.Key.toList)=true by simp,show (x.Room.toList==x.Room.toList)=true by simp,show (x.Piece.toList==x.Piece.toList)=true by simp,decide_eq_true rfl,ifB_true,ifB_true,ifB_true,ifB_true,EqS]; rfl
theorem EqL (l:List TSlot):m_slices_EqualFunc_api_Slot_api_Slot_api_Slot_api_Slot__gleeref2_SameSlot l l=some true:=eq_refl (m_slices_EqualFunc_api_Slot_api_Slot_api_Slot_api_Slot__gleeref2_SameSlot_l1 l) l fun i x hx=>by
 unfold m_slices_EqualFunc_api_Slot_api_Slot_api_Slot_api_Slot__gleeref2_SameSlot_l1
 rw [getI_of rfl hx,Option.bind_some,same_refl]; rfl
theorem Wishes_tot (w:List TWish):∃ e,m_rehearse_CheckWishes w=some e∧(e=0→WiOK w):=by
 unfold m_rehearse_CheckWishes
 by_cases h:(w.length:Int)>200
 ·rw [decide_eq_true h,ifB_true]; exact ⟨2,rfl,fun g=>by cases g⟩
 ·rw [decide_eq_false h,ifB_false]
  obtain ⟨e,h1,h2⟩:=loop_out _ (wiF w) w (wi_prog w (by omega))
  exact ⟨e,h1,fun g=>⟨by omega,h2.1 g⟩⟩
theorem aways_nil:m_rehearse_aways []=some []:=by
 unfold m_rehearse_aways
 rw [rangeM_nil,Option.bind_some,fin_brk]
 exact anyOrd_nil _
theorem SepM_nil:SepM []:=fun s=>⟨⟨List.Pairwise.nil,(fun _ h=>by cases h)⟩,by show (0:Nat)≤1000; omega⟩
theorem AwOK_nil:AwOK []:=⟨by simp,fun i x h=>by simp at h⟩
def win20:List TWindow:=[⟨0,20⟩]
theorem win20_ok:FrOK win20 [gloB,kyrB]:=⟨by simp [win20],fun i x hx=>by
 cases i with
 | zero=>cases hx; rfl
 | succ i=>simp [win20] at hx,.inr (by simp),by simp,by kernel_rfl⟩
theorem Merge_tot {c:List TCame} (h:CmOK c) (hl:c.length≤12):∃ r,m_rehearse_MergeCame c []=some r:=by
 unfold m_rehearse_MergeCame
 have h1:rangeM m_rehearse_MergeCame_l1 0 [c,[]] ()=some (.brk ()):=by
  have hst:∀ (i:Nat) (x:List TCame),CmOK x→m_rehearse_MergeCame_l1 i x ()=some (.nxt ()):=fun i x hx=>by
   unfold m_rehearse_MergeCame_l1
   rw [Came_ok hx]; rfl
  rw [rangeM_cons,hst 0 c h,Option.bind_some,run_nxt,rangeM_cons,hst 1 [] CmOK_nil,Option.bind_some,run_nxt,rangeM_nil]
 rw [h1,Option.bind_some,fin_brk,ConcatC _ (by simp; omega),Option.bind_some]
 have ef:List.flatten [c,[]]=c:=by simp
 rw [ef]
 obtain ⟨m,k1,k2⟩:=sortCC c hl
 have hml:=k2.length_eq
 rw [k1,Option.bind_some,Compact_spec m (by omega),Option.bind_some]
 have hdl:=(dd_sub m).length_le
 rw [decide_eq_false (by omega),ifB_false]
 exact ⟨_,rfl⟩
theorem RehearsalsStay_true (L:List Int):m_gleekeep2_RehearsalsStay L=some true:=by
 unfold m_gleekeep2_RehearsalsStay
 obtain ⟨l,p1,e1,a1,b1,c1,-⟩:=RightSlots_right L (p:=0) 4 (by omega) (by omega) (by omega)
 obtain ⟨g,p2,e2,a2,b2,c2,d2⟩:=RightSings_spec L (p:=p1) a1 (by omega)
 obtain ⟨c,p4,e4,a4,b4,f4,d4,-⟩:=RightCames_spec L (p:=p2) 8 (by omega) (by omega) (by omega)
 obtain ⟨w,p5,e5,a5,b5,f5⟩:=Wishes_spec L (p:=p4) a4 (by omega)
 have e1':m_gleemake_Stream_RightSlots L 0 4=some (l,p1):=e1
 have e4':m_gleemake_Stream_RightCames L p2 8=some (c,p4):=e4
 have hS:=c1.chk
 have hR:=c1.rise
 have hG:=Sings_ok d2 (by omega)
 have hma:isMo 100=true:=by decide
 rw [e1',Option.bind_some]
 simp only
 rw [e2,Option.bind_some]
 simp only
 rw [e4',Option.bind_some]
 simp only
 rw [e5,Option.bind_some]
 simp only
 rw [Option.bind_some]
 simp only
 rw [e2,Option.bind_some]
 simp only
 rw [e4',Option.bind_some]
 simp only
 rw [e5,Option.bind_some]
 simp only
 obtain ⟨m,h1⟩:=Merge_tot d4 (by omega)
 rw [h1,Option.bind_some]
 obtain ⟨s1,h2⟩:=spoilC m.1
 rw [h2,Option.bind_some]
 obtain ⟨f,k1,k2⟩:=Wishes_tot w
 obtain ⟨P,q1,q2⟩:=keeper_ok (g:=g) hS hG d4
 have hready:∃ r,m_rehearse_Ready l g c w gloB 100=some r:=by
  by_cases z:f=0
  ·exact ⟨_,Ready_spec hS hR hG (by omega) d4 (k2 z) gk_key.1 hma⟩
  ·unfold m_rehearse_Ready
   rw [q1,Option.bind_some]
   simp only
   rw [optB_some']
   exact ⟨([],f),anyOrd_of fun q _=>by rw [show ((0:Int) != 0)=false from rfl,ifB_false,k1,Option.bind_some,show (f != 0)=true by simpa using z,ifB_true]⟩
 have hlack:∃ r,m_rehearse_Lacking l g c w 100=some r:=by
  by_cases z:f=0
  ·obtain ⟨u,-,-,h⟩:=Lacking_spec hS hR hG (by omega) d4 (k2 z) (by omega) hma
   exact ⟨_,h⟩
  ·unfold m_rehearse_Lacking
   rw [q1,Option.bind_some]
   simp only
   rw [optB_some']
   exact ⟨([],f),anyOrd_of fun q _=>by rw [show ((0:Int) != 0)=false from rfl,ifB_false,k1,Option.bind_some,show (f != 0)=true by simpa using z,ifB_true]⟩
 have hplan:∃ r,m_rehearse_Plan win20 [gloB,kyrB] g [] w=some r:=by
  by_cases z:f=0
  ·obtain ⟨_,_,_,h,_⟩:=Plan_spec hG (by omega) AwOK_nil aways_nil SepM_nil (k2 z) win20_ok (by decide)
   exact ⟨_,h⟩
  ·unfold m_rehearse_Plan
   rw [hG,Option.bind_some,show ((0:Int) != 0)=false from rfl,ifB_false,Away_ok AwOK_nil,Option.bind_some,show ((0:Int) != 0)=false from rfl,ifB_false,k1,Option.bind_some,show (f != 0)=true by simpa using z,ifB_true]
   exact ⟨_,rfl⟩
 obtain ⟨r1,h3⟩:=hready
 obtain ⟨r2,h4⟩:=hlack
 obtain ⟨r3,h5⟩:=hplan
 obtain ⟨s2,h6⟩:=spoilS r1.1
 obtain ⟨s3,h7⟩:=spoilP r2.1
 obtain ⟨s4,h8⟩:=spoilS r3.1
 change ((m_rehearse_Ready l g c w gloB 100).bind fun y25=>(m_gleekeep2_spoil_string y25.1).bind fun y27=>(m_rehearse_Lacking l g c w 100).bind fun y28=>(m_gleekeep2_spoil_api_Pair y28.1).bind fun y30=>(m_rehearse_Plan win20 [gloB,kyrB] g [] w).bind _)=_
 rw [h3,Option.bind_some,h6,Option.bind_some,h4,Option.bind_some,h7,Option.bind_some,h5,Option.bind_some,h8,Option.bind_some,EqL,Option.bind_some,ifB_true,EqG,Option.bind_some,ifB_true,EqC,Option.bind_some,ifB_true,EqW,Option.bind_some,ifB_true,EqS,Option.bind_some,ifB_true,ready_true]; rfl
end Go.G
