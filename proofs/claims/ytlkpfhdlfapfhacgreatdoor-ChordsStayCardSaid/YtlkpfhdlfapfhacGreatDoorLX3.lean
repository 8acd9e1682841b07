/- LX3: ChordsStay. In plain Lean, no program in sight. -/
import Derived.Test.YtlkpfhdlfapfhacGreatDoorLX0
import Derived.Test.YtlkpfhdlfapfhacGreatDoorLVk
import Derived.Test.YtlkpfhdlfapfhacGreatDoorLW6a
import Derived.Test.YtlkpfhdlfapfhacGreatDoorLW4a
import Derived.Test.YtlkpfhdlfapfhacGreatDoorLR1g
namespace Go.G
open Go Go.J
set_option linter.unusedSimpArgs false
set_option linter.unusedVariables false
theorem spoilCh (l:List TChord):∃ r,m_gleekeep2_spoil_api_Chord l=some r:=spoil_tot (TChord.mk 0 0 0) m_gleekeep2_spoil_api_Chord_l1 (fun _ _ _=>rfl) l
theorem EqFo (l:List TFollow):m_slices_Equal_api_Follow_api_Follow l l=some true:=eq_refl (m_slices_Equal_api_Follow_api_Follow_l1 l) l fun i x hx=>by
 unfold m_slices_Equal_api_Follow_api_Follow_l1
 rw [getI_of rfl hx,Option.bind_some,decide_eq_true rfl]; rfl
theorem EqRa (l:List TRange):m_slices_Equal_api_Range_api_Range l l=some true:=eq_refl (m_slices_Equal_api_Range_api_Range_l1 l) l fun i x hx=>by
 unfold m_slices_Equal_api_Range_api_Range_l1
 rw [getI_of rfl hx,Option.bind_some,decide_eq_true rfl]; rfl
theorem Best_prog {l:List TChord} (h1:1≤l.length) (h12:l.length≤12) (hc:∀ c∈l,∃ r k t,Right c r k t) {rs:List TRange} (hr:RR rs) {leap:Int} (hlp:0≤leap∧leap≤24) (hbf:m_chord_bestFault l rs leap=some 0) :
  ∃ v,m_chord_Best l rs leap=some v:=by
 have hrl:=hr.len
 unfold m_chord_Best
 rw [hbf,Option.bind_some,show ((0:Int) != 0)=false from rfl,ifB_false,p_rows hr l 0 [] hc (by simp; omega),Option.bind_some]
 by_cases hbig:(l.any fun c=>decide ((RW rs c).length>1000))=true
 ·rw [if_pos hbig]
  exact ⟨_,rfl⟩
 ·rw [if_neg hbig]
  simp only [fin_brk,List.nil_append]
  have hfew:∀ c∈l,(RW rs c).length≤1000:=fun c hcm=>by
   have:¬ (RW rs c).length>1000:=fun h=>hbig (List.any_eq_true.2 ⟨c,hcm,decide_eq_true h⟩)
   omega
  have hR:RsOK rs.length (l.map (RW rs)):=⟨hrl.2,by rw [List.length_map]; exact h12,fun r hrm v hv=>by
   obtain ⟨c,-,rfl⟩:=List.mem_map.1 hrm
   exact (dfs_ok hr hv).1,fun r hrm=>by
   obtain ⟨c,hcm,rfl⟩:=List.mem_map.1 hrm
   exact hfew c hcm⟩
  have hA:RsA (l.map (RW rs)):=⟨fun r hrm v hv=>by
   obtain ⟨c,-,rfl⟩:=List.mem_map.1 hrm
   exact (dfs_ok hr hv).2⟩
  have hlR:l.length=(l.map (RW rs)).length:=by rw [List.length_map]
  generalize hRR:l.map (RW rs)=R at hR hA hlR
  obtain ⟨R0,Rs,rfl⟩:∃ R0 Rs,R=R0::Rs:=by
   cases R with
   | nil=>rw [List.length_nil] at hlR; omega
   | cons R0 Rs=>exact ⟨R0,Rs,rfl⟩
  have hC0:getI (costs leap (R0::Rs)) 0=some ((headT leap (R0::Rs)).map Prod.fst):=by
   refine getI_of (i:=0) (n:=0) rfl ?_
   unfold costs
   rw [List.getElem?_map,tabs_at leap (i:=0) (R:=R0::Rs) rfl]; rfl
  have hbd:=costs_bd (leap:=leap) hR _ (List.mem_of_getElem? (getI_spec hC0).2)
  have hfw0:=hR.few R0 (List.mem_cons_self ..)
  have hhl:=headT_len leap R0 Rs
  obtain ⟨f,f1,f2,f3⟩:=first_E (costs leap (R0::Rs)) (-1) (nexts leap (R0::Rs)) _ hC0 (fun c hcm=>(hbd c hcm).1) (by rw [List.length_map,hhl]; omega)
  rw [rests_spec hR (by rw [List.length_cons]; omega),Option.bind_some,hC0,Option.bind_some,f1,Option.bind_some,fin_brk]
  rcases f3 with rfl | ⟨j,rfl,c,hj,hcj⟩
  ·exact ⟨_,rfl⟩
  ·have hjl:j<R0.length:=by
    have:=(List.getElem?_eq_some_iff.1 hj).1
    rw [List.length_map,hhl] at this
    exact this
   have hcn:(nthP (headT leap (R0::Rs)) j).1=c:=by
    rw [List.getElem?_map,nthP_get (by rw [hhl]; exact hjl),Option.map_some] at hj
    exact Option.some.inj hj
   obtain ⟨z1,z2,p1⟩:=p_path (leap:=leap) hlR hR Rs R0 0 j [] rfl hjl (by rw [hcn]; exact hcj) (by have:=hR.len; rw [List.length_cons] at this; simp; omega)
   rw [hcn,List.nil_append,List.nil_append] at p1
   have p1':loopM (m_chord_Best_l3 l leap (R0::Rs) (costs leap (R0::Rs))) (1,c,[nthR R0 j])=some (.brk (z1,z2,pth leap (R0::Rs) j)):=p1
   rw [show ((j:Int) == -1)=false by simp]
   simp only [ifB_false,hC0,Option.bind_some,getI_of (i:=0) (n:=0) (xs:=R0::Rs) rfl rfl,getI_of (n:=j) rfl (nthR_get hjl),getI_of (n:=j) rfl hj,p1',fin_brk]
   exact ⟨_,rfl⟩
theorem Best_tot (l:List TChord) (rs:List TRange):∃ v,m_chord_Best l rs 12=some v:=by
 obtain ⟨cf,hcf,hcr⟩:=ChordsFault_total l 12
 have hbf:=bestFault_E hcf rs 12
 by_cases h0:faultB l cf rs 12=0
 ·have hz:=h0
  unfold faultB at hz
  by_cases hl0:l.length=0
  ·rw [if_pos hl0] at hz; omega
  ·rw [if_neg hl0] at hz
   by_cases hc0:cf=0
   ·rw [if_pos hc0] at hz
    by_cases hr0:rangesF rs=0
    ·have h12:l.length≤12:=by
      have:=ChordsFault_len (by rw [hcf,hc0]:m_gleeref2_ChordsFault l 12=some 0)
      omega
     rw [h0] at hbf
     exact Best_prog (by omega) h12 (hcr hc0) (rangesF_zero hr0) (leap:=12) (by omega) hbf
    ·rw [if_neg hr0] at hz; exact absurd hz hr0
   ·rw [if_neg hc0] at hz; exact absurd hz hc0
 ·unfold m_chord_Best
  rw [hbf,Option.bind_some,show (faultB l cf rs 12 != 0)=true by simpa using h0,ifB_true]
  exact ⟨_,rfl⟩
theorem Faults_tot (v:List (List Int)):∃ r,m_chord_Faults v 5=some r:=by
 by_cases hv:vfault v=0
 ·exact ⟨_,Faults_spec (vfault_zero hv) 5 (by omega)⟩
 ·unfold m_chord_Faults
  rw [voicesFault_spec,Option.bind_some,show (vfault v != 0)=true by simpa using hv,ifB_true]
  exact ⟨_,rfl⟩
theorem Of_tot (n:List Int):∃ v,m_chord_Of n=some v:=by
 obtain ⟨w,h,-⟩:=Of_spec (NotesFault_eq n 12)
 exact ⟨_,h⟩
theorem Way_tot (f:List TFollow) (a b:TChord):∃ v,m_chord_Way f a b=some v:=by
 obtain ⟨e0,k0⟩:=FollowsFault_total f
 obtain ⟨ea,ka,ra⟩:=ChordFault_total a
 obtain ⟨eb,kb,rb⟩:=ChordFault_total b
 obtain ⟨ms,-,h⟩:=Way_all (a:=a) (b:=b) (f:=f) (e0:=e0) (ea:=ea) (eb:=eb) (by rw [FollowsFault_eq]; exact k0) (checkAll2 ka kb)
 exact ⟨_,h⟩
theorem ChordsStay_true (L:List Int):m_gleekeep2_ChordsStay L=some true:=by
 unfold m_gleekeep2_ChordsStay
 obtain ⟨n,q1,h1,a1,b1⟩:=Notes_spec L (q:=0) (by omega) (by omega)
 obtain ⟨c,q2,h2,a2,b2⟩:=Chords_spec L (q:=q1) (many:=3) (by omega) (by omega) (by omega) (by omega)
 obtain ⟨f,q3,h3,a3,b3,-⟩:=Follows_spec L (p:=q2) (by omega) (by omega)
 obtain ⟨r,q4,h4,a4,b4⟩:=Ranges_spec L (p:=q3) (by omega) (by omega)
 obtain ⟨v,q5,h5,a5,b5,-⟩:=Voices_spec L (p:=q4) (by omega) (by omega)
 rw [h1,Option.bind_some]
 simp only
 rw [h2,Option.bind_some]
 simp only
 rw [h3,Option.bind_some]
 simp only
 rw [h4,Option.bind_some]
 simp only
 rw [h5,Option.bind_some,Option.bind_some]
 simp only
 rw [h2,Option.bind_some]
 simp only
 rw [h3,Option.bind_some]
 simp only
 rw [h4,Option.bind_some]
 simp only
 rw [h5,Option.bind_some]
 simp only
 obtain ⟨o,ho⟩:=Of_tot n
 obtain ⟨s1,hs1⟩:=spoilCh o.1
 rw [ho,Option.bind_some,hs1,Option.bind_some]
 have hway:(ifB (decide ((c.length:Int)>1)) ((getI c 0).bind fun e31=>(getI c 1).bind fun e32=>(m_chord_Way f e31 e32).bind fun y33=>(m_gleekeep2_spoil_api_Chord y33.1).bind fun y35=>some (.inl ())) (some (.inl ())):Option (Unit ⊕ Bool))=some (.inl ()):=by
  by_cases hc:(c.length:Int)>1
  ·have g0:getI c 0=some (c[0]'(by omega)):=getI_of (n:=0) rfl (List.getElem?_eq_getElem (by omega))
   have g1:getI c 1=some (c[1]'(by omega)):=getI_of (n:=1) rfl (List.getElem?_eq_getElem (by omega))
   rw [decide_eq_true hc,ifB_true,g0,Option.bind_some,g1,Option.bind_some]
   obtain ⟨y,hy⟩:=Way_tot f (c[0]'(by omega)) (c[1]'(by omega))
   obtain ⟨s2,hs2⟩:=spoilCh y.1
   rw [hy,Option.bind_some,hs2]; rfl
  ·rw [decide_eq_false hc,ifB_false]
 rw [hway,Option.bind_some,fin_inl]
 obtain ⟨z,hz⟩:=Best_tot c r
 rw [hz,Option.bind_some]
 obtain ⟨u,hu,-⟩:=rangeM_invx m_gleekeep2_ChordsStay_l1 z.1 (fun _ _=>True) (fun i x s _ _=>⟨(),rfl,trivial⟩) () trivial
 rw [hu,Option.bind_some,fin_brk]
 obtain ⟨ff,hff⟩:=Faults_tot v
 rw [hff,Option.bind_some]
 simp only [EqualInt_spec,Option.bind_some,decide_true,ifB_true,EqualChord,EqFo,EqRa,EqualII_refl,ready_true]
end Go.G
