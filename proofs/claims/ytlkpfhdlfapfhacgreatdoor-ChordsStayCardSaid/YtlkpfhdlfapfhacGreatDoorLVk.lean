/- LVk: VoicesBest. In plain Lean, no program in sight. -/
import Derived.Test.YtlkpfhdlfapfhacGreatDoorLVj
import Derived.Test.YtlkpfhdlfapfhacGreatDoorLH5
namespace Go.G
open Go Go.J
set_option linter.unusedSimpArgs false
set_option linter.unusedVariables false
def badR (x:TRange):Bool:=!decide (0≤x.Low∧x.Low≤x.High)||decide (x.High>127)
def wideR (x:TRange):Bool:=decide (x.High - x.Low>24)
def rangesF (rs:List TRange):Int:=if rs.length=0 then 8 else if (rs.length:Int)>5 then 2 else if rs.any badR=true then 1 else if rs.any wideR=true then 2 else 0
theorem good_rs {rs:List TRange} (h:¬ rs.any badR=true):∀ x∈rs,0≤x.Low∧x.Low≤x.High∧x.High≤127:=fun x hx=>by
 have h1:badR x=false:=by
  rw [← Bool.not_eq_true]
  exact fun e=>h (List.any_eq_true.2 ⟨x,hx,e⟩)
 unfold badR at h1
 rw [Bool.or_eq_false_iff,Bool.not_eq_false',decide_eq_true_eq,decide_eq_false_iff_not] at h1
 omega
theorem rangesFault_E (rs:List TRange):m_chord_rangesFault rs=some (rangesF rs):=by
 unfold m_chord_rangesFault rangesF
 by_cases h0:rs.length=0
 ·rw [if_pos h0,show ((rs.length:Int)==0)=true by simp [h0]]; rfl
 ·rw [if_neg h0,show ((rs.length:Int)==0)=false by simpa using h0,ifB_false]
  by_cases h5:(rs.length:Int)>5
  ·rw [if_pos h5,decide_eq_true h5]; rfl
  ·rw [if_neg h5,decide_eq_false h5,ifB_false,anyU m_chord_rangesFault_l1 badR 1 rs 0 (fun i x hx=>by
    unfold m_chord_rangesFault_l1 badR
    rw [Outside_spec,Option.bind_some]
    cases decide (0≤x.Low∧x.Low≤x.High) with
    | false=>rfl
    | true=>cases decide (x.High>127) <;> rfl)]
   by_cases hb:rs.any badR=true
   ·rw [if_pos hb,if_pos hb]; rfl
   ·rw [if_neg hb,if_neg hb,Option.bind_some,fin_brk]
    have hg:=good_rs hb
    have hc:m_slices_ContainsFunc_api_Range_api_Range__chord_rangesFault_1 rs=some (rs.any wideR):=cfM_specV m_chord_rangesFault_1 wideR rs (fun x hx=>by
     have:=hg x hx
     unfold m_chord_rangesFault_1 wideR
     rw [w64_id (n:=x.High - x.Low) (by omega),w64_id (by omega)]
     congr 1
     rw [decide_eq_decide]
     omega)
    rw [hc,Option.bind_some]
    cases rs.any wideR <;> rfl
theorem rangesF_zero {rs:List TRange} (h:rangesF rs=0):RR rs:=by
 unfold rangesF at h
 by_cases h0:rs.length=0
 ·rw [if_pos h0] at h; omega
 ·rw [if_neg h0] at h
  by_cases h5:(rs.length:Int)>5
  ·rw [if_pos h5] at h; omega
  ·rw [if_neg h5] at h
   by_cases hb:rs.any badR=true
   ·rw [if_pos hb] at h; omega
   ·rw [if_neg hb] at h
    by_cases hw:rs.any wideR=true
    ·rw [if_pos hw] at h; omega
    ·refine ⟨by omega,fun r hr=>?_⟩
     have h1:=good_rs hb r hr
     have h2:wideR r=false:=by
      rw [← Bool.not_eq_true]
      exact fun e=>hw (List.any_eq_true.2 ⟨r,hr,e⟩)
     unfold wideR at h2
     rw [decide_eq_false_iff_not] at h2
     omega
def leapF (leap:Int):Int:=if 0≤leap∧leap≤24 then 0 else 1
def faultB (l:List TChord) (cf:Int) (rs:List TRange) (leap:Int):Int:=if l.length=0 then 8 else if cf=0 then if rangesF rs=0 then leapF leap else rangesF rs else cf
theorem bestFault_E {l:List TChord} {cf:Int} (hcf:m_gleeref2_ChordsFault l 12=some cf) (rs:List TRange) (leap:Int):m_chord_bestFault l rs leap=some (faultB l cf rs leap):=by
 unfold m_chord_bestFault faultB
 unfold m_gleeref2_ChordsFault at hcf
 by_cases h0:l.length=0
 ·rw [if_pos h0,show ((l.length:Int)==0)=true by simp [h0]]; rfl
 ·rw [if_neg h0,show ((l.length:Int)==0)=false by simpa using h0,ifB_false]
  by_cases h12:(l.length:Int)>12
  ·rw [decide_eq_true h12,ifB_true] at hcf
   have:=Option.some.inj hcf
   rw [decide_eq_true h12,ifB_true,if_neg (by omega),this]
  ·rw [decide_eq_false h12,ifB_false] at hcf
   rw [decide_eq_false h12,ifB_false,checkAll_eq,hcf,Option.bind_some]
   by_cases hc0:cf=0
   ·rw [if_pos hc0,show (cf != 0)=false by simpa using hc0,ifB_false,rangesFault_E,Option.bind_some]
    by_cases hr:rangesF rs=0
    ·rw [if_pos hr,show (rangesF rs != 0)=false by simpa using hr,ifB_false,Outside_spec,Option.bind_some]
     unfold leapF
     by_cases hl:0≤leap∧leap≤24
     ·rw [decide_eq_true hl,if_pos hl]; rfl
     ·rw [decide_eq_false hl,if_neg hl]; rfl
    ·rw [if_neg hr,show (rangesF rs != 0)=true by simpa using hr,ifB_true]
   ·rw [if_neg hc0,show (cf != 0)=true by simpa using hc0,ifB_true]
noncomputable def RW (rs:List TRange) (c:TChord):List (List Int):=dfs ((m_chord_tones c).getD []) rs []
theorem CT_of {c:TChord} (h:∃ r k t,Right c r k t):CT c ((m_chord_tones c).getD []):=by
 obtain ⟨T,h1,h2,h3,h4⟩:=right_pos h
 have e:(m_chord_tones c).getD []=T:=by rw [h1]; rfl
 rw [e]
 exact ⟨h1,h2,h3,h4⟩
theorem p_rows {rs:List TRange} (hr:RR rs):∀ (t:List TChord) (i:Nat) (acc:List (List (List Int))),(∀ c∈t,∃ r k t,Right c r k t)→acc.length+t.length≤1000 →
  rangeM (m_chord_Best_l1 rs) i t acc=some (if (t.any fun c=>decide ((RW rs c).length>1000))=true then .ret ([],0,false,12) else .brk (acc++t.map (RW rs)))
 | [],i,acc,_,_=>by simp [rangeM]
 | c::t,i,acc,hc,hl=>by
  rw [List.length_cons] at hl
  have hrl:=hr.len
  have hct:=CT_of (hc c (List.mem_cons_self ..))
  have hfind:m_chord_finder_find FUEL c.Root c.Kind c.Turn rs ((m_chord_tones c).getD []) [] []=some ((RW rs c).take 1001):=by
   have:=find_spec hct hr rs [] (99999 - rs.length) [] rfl (by simp) (by simp) (by simp)
   rw [show rs.length+1+(99999 - rs.length)=100000 by omega,List.nil_append] at this
   unfold FUEL
   exact this
  have hm:makeM 8 (0:Int) (rs.length:Int)=some (List.replicate rs.length 0):=by
   unfold makeM
   rw [if_pos (by unfold maxLen; omega)]
   simp
  have hstep:m_chord_Best_l1 rs i c acc=some (if (RW rs c).length>1000 then .ret ([],0,false,12) else .nxt (acc++[RW rs c])):=by
   unfold m_chord_Best_l1
   rw [hct.tones,Option.bind_some,hm,Option.bind_some,hfind,Option.bind_some]
   by_cases hb:(RW rs c).length>1000
   ·rw [if_pos hb,decide_eq_true (by rw [List.length_take]; omega),ifB_true]
   ·rw [if_neg hb,decide_eq_false (by rw [List.length_take]; omega),ifB_false,List.take_of_length_le (by omega),appM_of (by simp; omega) (by omega),Option.bind_some]
  rw [rangeM_cons,hstep,List.any_cons]
  by_cases hb:(RW rs c).length>1000
  ·rw [if_pos hb,decide_eq_true hb,Bool.true_or,if_pos rfl]; rfl
  ·rw [if_neg hb,decide_eq_false hb,Bool.false_or,Option.bind_some,run_nxt,p_rows hr t (i+1) _ (fun x hx=>hc x (List.mem_cons_of_mem _ hx)) (by rw [List.length_append,List.length_singleton]; omega),List.map_cons,List.append_assoc]
   rfl
theorem Ranges_spec (L:List Int) {p:Int} (hp:0≤p) (hp':p≤900000000):∃ rs q,m_gleemake_Stream_Ranges L p=some (rs,q)∧p≤q∧q≤p+100:=by
 unfold m_gleemake_Stream_Ranges
 obtain ⟨n,h1,h2,h3⟩:=Range_spec L (p:=p) (a:=1) (b:=4) hp (by omega) (by omega) (by omega) (by omega)
 rw [h1,Option.bind_some]
 simp only
 rw [sliceI_of (xs:=[45,52,59,64]) (lo:=0) (hi:=n) (a:=0) (b:=n.toNat) rfl (by omega) (by omega) (by simp; omega),Option.bind_some]
 have hlen:(([45,52,59,64]:List Int).drop 0 |>.take (n.toNat - 0)).length=n.toNat:=by simp; omega
 generalize (([45,52,59,64]:List Int).drop 0 |>.take (n.toNat - 0))=xs at hlen
 obtain ⟨⟨p1,out⟩,g1,g2,g3,g4⟩:=rangeM_invx (m_gleemake_Stream_Ranges_l1 L) xs (fun i s=>p+1≤s.1∧s.1≤p+1+2*i∧s.2.length=i) (by
  rintro i x ⟨r,o⟩ hx ⟨a1,a2,a3⟩
  have hi:=(List.getElem?_eq_some_iff.1 hx).1
  simp only at a1 a2 a3
  unfold m_gleemake_Stream_Ranges_l1
  obtain ⟨v,k1,-⟩:=Range_spec L (p:=r) (a:=-2) (b:=2) (by omega) (by omega) (by omega) (by omega) (by omega)
  obtain ⟨w,k2,-⟩:=Pick_spec L (p:=r+1) [7,9,11,12] (by omega) (by omega) (by simp) (by simp)
  simp only
  rw [k1,Option.bind_some]
  simp only
  rw [k2,Option.bind_some,appM_of (by simp; omega) (by omega),Option.bind_some]
  exact ⟨_,rfl,by simp only; omega,by simp only; omega,by simp; omega⟩) (p+1,[]) ⟨by simp,by simp,by simp⟩
 simp only at g2 g3 g4
 rw [g1,Option.bind_some,fin_brk]
 simp only
 obtain ⟨f,hf⟩:=Flip_spec L (p:=p1) (n:=20) (by omega) (by omega) (by omega)
 rw [hf,Option.bind_some]
 simp only
 cases f with
 | false=>exact ⟨_,_,rfl,by omega,by omega⟩
 | true =>
  obtain ⟨i,k1,k2,k3⟩:=Next_spec L (p:=p1+1) (n:=out.length) (by omega) (by omega) (by omega)
  have k3:=k3 (by omega)
  obtain ⟨a,q1,k4,k5,k6⟩:=Odd_specH L (p:=p1+1+1) (a:=0) (b:=60) (by omega) (by omega) (by omega) (by omega) (by omega)
  obtain ⟨b,q2,k7,k8,k9⟩:=Odd_specH L (p:=q1) (a:=0) (b:=127) (by omega) (by omega) (by omega) (by omega) (by omega)
  rw [ifB_true,k1,Option.bind_some]
  simp only
  rw [getI_of (n:=i.toNat) (by omega) (List.getElem?_eq_getElem (by omega)),Option.bind_some,k4,Option.bind_some]
  simp only
  rw [k7,Option.bind_some]
  exact ⟨_,_,rfl,by simp only; omega,by simp only; omega⟩
theorem EqualII_refl (xs:List (List Int)):m_slices_EqualFunc_int_int_int_int__slices_Equal_int_int xs xs=some true:=by
 unfold m_slices_EqualFunc_int_int_int_int__slices_Equal_int_int
 rw [show ((xs.length:Int) != (xs.length:Int))=false by simp,ifB_false]
 obtain ⟨s,h1,-⟩:=rangeM_invx (m_slices_EqualFunc_int_int_int_int__slices_Equal_int_int_l1 xs) xs (fun _ _=>True) (fun i x s hx _=>⟨(),by
  unfold m_slices_EqualFunc_int_int_int_int__slices_Equal_int_int_l1
  rw [getI_of rfl hx,Option.bind_some,EqualInt_spec,decide_eq_true rfl]; rfl,trivial⟩) () trivial
 rw [h1]; rfl
end Go.G
