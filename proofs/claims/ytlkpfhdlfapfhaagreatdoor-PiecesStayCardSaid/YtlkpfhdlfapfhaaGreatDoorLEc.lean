/- LEc: what is written: Written is WrittenOf. In plain Lean, no program in sight. -/
import Derived.Test.YtlkpfhdlfapfhaaGreatDoorLEb
namespace Go.G
open Go Go.J
set_option linter.unusedSimpArgs false
set_option linter.unusedVariables false
def restF (v:Int):TFraction:=lowF v.toNat 192
def restT (x:TBar):List TTone:=[TTone.mk (-1) (restF (lB x)) ByteArray.empty false]
theorem rest_spec {x:TBar} (h:bad x=false):(∃ v,m_piece_long x=some v∧m_piece_fraction v=some (restF (lB x)))∧(∃ v,m_gleeref2_barUnits x=some v∧m_gleeref2_Lowest v 192=some (restF (lB x))):=by
 obtain ⟨h1,h2,h3,h4⟩:=long_spec h
 obtain ⟨g1,g2,-⟩:=low_spec (n:=lB x) h3 (by omega)
 exact ⟨⟨_,h1,g1⟩,⟨_,h2,g2⟩⟩
def hitE (part:ByteArray) (at_:Int) (e:TEdit):Bool:=decide (e.Part=part)&&decide (e.At≤at_)
def barE (l:List TEdit) (part:ByteArray) (at_:Int) (i:Nat) (t:List TTone):List TTone:=l.foldl (fun t e=>if (hitE part at_ e&&decide (e.Bar=(i:Int)))=true then e.Tones else t) t
theorem refBar (part:ByteArray) (at_:Int) (i:Nat):∀ (l:List TEdit) (k:Nat) (t:List TTone),rangeM (m_gleeref2_WrittenOf_l2 part at_ i) k l t=some (.brk (barE l part at_ i t))
 | [],k,t=>rfl
 | e::l,k,t=>by
  rw [rangeM_cons]
  have hs:m_gleeref2_WrittenOf_l2 part at_ i k e t=some (.nxt (if (hitE part at_ e&&decide (e.Bar=(i:Int)))=true then e.Tones else t)):=by
   unfold m_gleeref2_WrittenOf_l2 hitE
   rw [ba_tlE,show (e.Bar==(i:Int))=decide (e.Bar=(i:Int)) by rw [Bool.eq_iff_iff]; simp]
   cases decide (e.Part=part) <;> cases decide (e.Bar=(i:Int)) <;> cases decide (e.At≤at_) <;> rfl
  rw [hs,Option.bind_some,run_nxt,refBar part at_ i l]
  rfl
theorem progBars (part:ByteArray) (at_:Int) (n:Nat):∀ (l:List TEdit) (k:Nat) (rows:List (List TTone)),rows.length=n→(∀ e∈l,∃ m:Nat,e.Bar=m∧m<n) →
  ∃ rows',rangeM (m_piece_Written_l2 part at_) k l rows=some (.brk rows')∧rows'.length=n∧∀ i t,rows[i]? = some t→rows'[i]? = some (barE l part at_ i t)
 | [],k,rows,hn,_=>⟨rows,rfl,hn,fun i t h=>h⟩
 | e::l,k,rows,hn,hb=>by
  rw [rangeM_cons]
  obtain ⟨m,hm,hlt⟩:=hb e (List.mem_cons_self ..)
  have hs:m_piece_Written_l2 part at_ k e rows=some (.nxt (if hitE part at_ e=true then rows.set m e.Tones else rows)):=by
   unfold m_piece_Written_l2 hitE
   rw [ba_tlE]
   have hg:getI rows e.Bar=some (rows[m]'(by omega)):=getI_of hm (List.getElem?_eq_getElem _)
   have ht:e.Bar.toNat=m:=by omega
   cases decide (e.Part=part) with
   | false=>rfl
   | true =>
    rw [ifB_true,Option.bind_some,fin_inl,hg,ht]
    cases decide (e.At≤at_) <;> rfl
  rw [hs,Option.bind_some,run_nxt]
  obtain ⟨rows',g1,g2,g3⟩:=progBars part at_ n l (k+1) (if hitE part at_ e=true then rows.set m e.Tones else rows) (by split <;> simp [hn]) (fun e' h=>hb e' (List.mem_cons_of_mem _ h))
  refine ⟨rows',g1,g2,fun i t hi=>?_⟩
  have:=g3 i (if (hitE part at_ e&&decide (e.Bar=(i:Int)))=true then e.Tones else t) (by
   cases hh:hitE part at_ e with
   | false=>simpa [hh] using hi
   | true =>
    rw [if_pos rfl,List.getElem?_set,Bool.true_and]
    have hi':=(List.getElem?_eq_some_iff.1 hi).1
    by_cases hmi:m=i
    ·rw [if_pos hmi,if_pos (by omega),if_pos (by rw [decide_eq_true_eq]; omega)]
    ·rw [if_neg hmi,if_neg (by rw [decide_eq_true_eq]; omega)]; exact hi)
  rw [this]
  rfl
def rowsE (b:List TBar) (l:List TEdit) (part:ByteArray) (at_:Int):List (List TTone):=b.mapIdx fun i x=>barE l part at_ i (restT x)
theorem barE_len (l:List TEdit) (part:ByteArray) (at_:Int) (i:Nat) (hl:∀ e∈l,e.Tones.length≤2000):∀ (t:List TTone),t.length≤2000→(barE l part at_ i t).length≤2000:=by
 induction l with
 | nil=>intro t h; exact h
 | cons e l ih =>
  intro t h
  show (barE l part at_ i _).length≤2000
  refine ih (fun e' h'=>hl e' (List.mem_cons_of_mem _ h')) _ ?_
  simp only
  split
  ·exact hl e (List.mem_cons_self ..)
  ·exact h
theorem flat_le:∀ (rows:List (List TTone)),(∀ r∈rows,r.length≤2000)→rows.flatten.length≤rows.length*2000
 | [],_=>by simp
 | r::rows,h=>by
  have h1:=h r (List.mem_cons_self ..)
  have h2:=flat_le rows (fun r' h'=>h r' (List.mem_cons_of_mem _ h'))
  rw [List.flatten_cons,List.length_append,List.length_cons]
  omega
theorem ConcatT (rows:List (List TTone)) (hr:∀ r∈rows,r.length≤2000) (hl:rows.length≤600):m_slices_Concat_api_Tone_api_Tone rows=some rows.flatten:=by
 have hF:=flat_le rows hr
 have hFl:rows.flatten.length≤1200000:=by omega
 unfold m_slices_Concat_api_Tone_api_Tone
 have h1:∀ (t:List (List TTone)) (i n:Nat),n+t.flatten.length≤1200000→rangeM m_slices_Concat_api_Tone_api_Tone_l1 i t (n:Int)=some (.brk ((n+t.flatten.length:Nat):Int)):=by
  intro t
  induction t with
  | nil=>intro i n _; simp [rangeM]
  | cons r t ih =>
   intro i n hn
   rw [List.flatten_cons,List.length_append] at hn
   rw [rangeM_cons]
   unfold m_slices_Concat_api_Tone_api_Tone_l1
   rw [w64_id (by omega),decide_eq_false (by omega),ifB_false,Option.bind_some,run_nxt]
   have:=ih (i+1) (n+r.length) (by omega)
   unfold m_slices_Concat_api_Tone_api_Tone_l1 at this
   rw [show ((n:Int)+(r.length:Int))=((n+r.length:Nat):Int) by omega,this,List.flatten_cons,List.length_append,Nat.add_assoc]
 have h2:m_slices_Grow_api_Tone_api_Tone__nil ((rows.flatten.length:Nat):Int)=some []:=by
  unfold m_slices_Grow_api_Tone_api_Tone__nil
  rw [decide_eq_false (by omega),ifB_false,show w64 (0 - 0)=0 from rfl,w64_id (by omega)]
  by_cases h:((rows.flatten.length:Nat):Int) - 0>0
  ·rw [decide_eq_true h,ifB_true,show sliceI ([]:List TTone) 0 0=some [] from rfl,Option.bind_some]
   unfold growM
   rw [if_pos (by unfold maxLen; omega)]; rfl
  ·rw [decide_eq_false h]; rfl
 have h3:∀ (t:List (List TTone)) (i:Nat) (u:List TTone),u.length+t.flatten.length≤1200000→rangeM m_slices_Concat_api_Tone_api_Tone_l2 i t u=some (.brk (u++t.flatten)):=by
  intro t
  induction t with
  | nil=>intro i u _; simp [rangeM]
  | cons r t ih =>
   intro i u hn
   rw [List.flatten_cons,List.length_append] at hn
   rw [rangeM_cons]
   unfold m_slices_Concat_api_Tone_api_Tone_l2
   rw [appM_of (by omega) (by omega),Option.bind_some,Option.bind_some,run_nxt]
   have:=ih (i+1) (u++r) (by rw [List.length_append]; omega)
   unfold m_slices_Concat_api_Tone_api_Tone_l2 at this
   rw [this,List.flatten_cons,List.append_assoc]
 have h1':=h1 rows 0 0 (by omega)
 rw [show ((0:Nat):Int)=0 from rfl,Nat.zero_add] at h1'
 rw [h1',Option.bind_some,fin_brk,h2,Option.bind_some,h3 rows 0 [] (by rw [List.length_nil]; omega),Option.bind_some,fin_brk,List.nil_append]
theorem restRows {b:List TBar} (hbl:b.length≤600) (hb:∀ x∈b,bad x=false):∃ rows,makeM 24 ([]:List TTone) (b.length:Int)=some (List.replicate b.length [])∧rangeM m_piece_Written_l1 0 b (List.replicate b.length [])=some (.brk rows)∧rows.length=b.length∧∀ (i:Nat) (x:TBar),b[i]? = some x→rows[i]? = some (restT x):=by
 have hm:makeM 24 ([]:List TTone) (b.length:Int)=some (List.replicate b.length []):=by
  unfold makeM
  rw [if_pos (by unfold maxLen; omega)]
  simp
 obtain ⟨s,h1,h2,h3⟩:=rangeM_invx m_piece_Written_l1 b (fun i s=>s.length=b.length∧∀ j x,j<i→b[j]? = some x→s[j]? = some (restT x)) (by
  rintro i x s hx ⟨hl,hs⟩
  have hi:=(List.getElem?_eq_some_iff.1 hx).1
  obtain ⟨⟨v,g1,g2⟩,-⟩:=rest_spec (hb x (List.mem_of_getElem? hx))
  unfold m_piece_Written_l1
  rw [g1,Option.bind_some,g2,Option.bind_some,getI_of (n:=i) rfl (List.getElem?_eq_getElem (by omega)),Option.bind_some,show ((i:Int)).toNat=i by omega]
  refine ⟨_,rfl,by rw [List.length_set]; exact hl,fun j y hj hy=>?_⟩
  rw [List.getElem?_set]
  by_cases hij:i=j
  ·subst hij
   rw [hx] at hy; cases hy
   rw [if_pos rfl,if_pos (by omega)]; rfl
  ·rw [if_neg hij]
   exact hs j y (by omega) hy) (List.replicate b.length []) ⟨by simp,fun j x hj=>absurd hj (by omega)⟩
 exact ⟨s,hm,h1,h2,fun i x hx=>h3 i x (List.getElem?_eq_some_iff.1 hx).1 hx⟩
theorem refRows {b:List TBar} (hbl:b.length≤600) (hb:∀ x∈b,bad x=false) (l:List TEdit) (hl:∀ e∈l,e.Tones.length≤2000) (part:ByteArray) (at_:Int) :
  rangeM (m_gleeref2_WrittenOf_l1 l part at_) 0 b []=some (.brk (rowsE b l part at_).flatten):=by
 have key:∀ (t pre:List TBar) (u:List TTone),b=pre++t→u.length≤pre.length*2000→rangeM (m_gleeref2_WrittenOf_l1 l part at_) pre.length t u=some (.brk (u++(t.mapIdx fun i x=>barE l part at_ (pre.length+i) (restT x)).flatten)):=by
  intro t
  induction t with
  | nil=>intro pre u _ _; simp [rangeM]
  | cons x t ih =>
   intro pre u hd hu
   rw [rangeM_cons]
   obtain ⟨-,⟨v,g1,g2⟩⟩:=rest_spec (hb x (by rw [hd]; simp))
   have hpl:pre.length<600:=by rw [hd] at hbl; simp at hbl; omega
   have hbe:=barE_len l part at_ pre.length hl (restT x) (by unfold restT; simp)
   have hs:m_gleeref2_WrittenOf_l1 l part at_ pre.length x u=some (.nxt (u++barE l part at_ pre.length (restT x))):=by
    unfold m_gleeref2_WrittenOf_l1
    have hr:=refBar part at_ pre.length l 0 (restT x)
    unfold restT at hr hbe ⊢
    rw [g1,Option.bind_some,g2,Option.bind_some,hr,Option.bind_some,fin_brk,appM_of (by omega) (by omega),Option.bind_some]
   rw [hs,Option.bind_some,run_nxt]
   have:=ih (pre++[x]) (u++barE l part at_ pre.length (restT x)) (by rw [hd]; simp) (by rw [List.length_append,List.length_append,List.length_singleton]; omega)
   rw [List.length_append,List.length_singleton] at this
   rw [this,List.mapIdx_cons,List.flatten_cons,List.append_assoc]
   simp only [Nat.add_zero,Nat.add_assoc,Nat.add_comm 1]
 have:=key b [] [] rfl (by simp)
 rw [List.length_nil,List.nil_append] at this
 simp only [Nat.zero_add] at this
 exact this
theorem Written_E {b:List TBar} (hbl:b.length≤600) {parts:List ByteArray} (hpl:parts.length≤100000) {x:List TEdit} (hx:∀ e∈x,EOk e) (hxl:x.length≤10000) (part:ByteArray) (at_:Int)
  {fx:Int} (hfx:m_gleeref2_EditsFault b parts x=some fx) :
  ∃ w e,m_piece_Written b parts x part at_=some (if fx≠0 then ([],fx) else if memS part parts=false then ([],8) else if mo at_=false then ([],1) else (w,e)) ∧
   (fx=0→memS part parts=true→mo at_=true→m_gleeref2_WrittenOf b x part at_=some (w,e)):=by
 obtain ⟨k,h1,h2,h3⟩:=CheckEdits_E b hbl parts hpl x hx (by omega)
 rw [hfx] at h2; cases h2
 unfold m_piece_Written
 rw [h1,Option.bind_some]
 by_cases h0:fx=0
 ·rw [show (fx != 0)=false by simpa using h0,ifB_false,ContainsE,Option.bind_some]
  obtain ⟨hc,-,hX⟩:=h3 h0
  have hb:=good_of hc
  simp only [h0,ne_eq,not_true_eq_false,if_false]
  cases h4:memS part parts with
  | false=>exact ⟨[],0,rfl,fun _ h=>by cases h⟩
  | true =>
   rw [Bool.not_true,ifB_false,IsMoment_E,Option.bind_some]
   cases h5:mo at_ with
   | false=>exact ⟨[],0,rfl,fun _ _ h=>by cases h⟩
   | true =>
    simp only [Bool.not_true,ifB_false,Bool.true_eq_false,if_false]
    obtain ⟨rows,g0,g1,g2,g3⟩:=restRows hbl hb
    obtain ⟨rows',k1,k2,k3⟩:=progBars part at_ b.length x 0 rows g2 (fun e he=>by
     obtain ⟨n,hn,y,hy,-⟩:=(hX.er e he).bar
     exact ⟨n,hn,(List.getElem?_eq_some_iff.1 hy).1⟩)
    have hlen:∀ e∈x,e.Tones.length≤2000:=fun e he=>by
     obtain ⟨n,hn,y,hy,hf,-⟩:=(hX.er e he).bar
     exact hf.len
    have hrows:rows'=rowsE b x part at_:=by
     apply List.ext_getElem?
     intro i
     unfold rowsE
     rw [List.getElem?_mapIdx]
     by_cases hi:i<b.length
     ·have hbi:b[i]? = some b[i]:=List.getElem?_eq_getElem hi
      rw [k3 i _ (g3 i _ hbi),hbi]; rfl
     ·rw [List.getElem?_eq_none (by omega),List.getElem?_eq_none (l:=b) (by omega)]; rfl
    have hrl:∀ r∈rowsE b x part at_,r.length≤2000:=fun r hr=>by
     obtain ⟨i,hi,rfl⟩:=List.mem_iff_getElem.1 hr
     have:(rowsE b x part at_)[i]'hi=barE x part at_ i (restT (b[i]'(by unfold rowsE at hi; rw [List.length_mapIdx] at hi; exact hi))):=List.getElem_mapIdx ..
     rw [this]
     exact barE_len x part at_ i hlen _ (by unfold restT; simp)
    have hrn:(rowsE b x part at_).length≤600:=by unfold rowsE; rw [List.length_mapIdx]; exact hbl
    have hfl:=flat_le _ hrl
    unfold m_gleeref2_WrittenOf
    rw [g0,Option.bind_some,g1,Option.bind_some,fin_brk,k1,Option.bind_some,fin_brk,hrows,ConcatT _ hrl hrn,Option.bind_some,refRows hbl hb x hlen part at_,Option.bind_some,fin_brk]
    by_cases hbig:((rowsE b x part at_).flatten.length:Int)>2000
    ·rw [decide_eq_true hbig,ifB_true]
     exact ⟨[],2,rfl,fun _ _ _=>rfl⟩
    ·obtain ⟨u,u1,u2,-⟩:=loosened_spec (rowsE b x part at_).flatten (by omega)
     rw [decide_eq_false hbig,ifB_false,ifB_false,u1,u2,Option.bind_some]
     exact ⟨u,0,rfl,fun _ _ _=>rfl⟩
 ·rw [show (fx != 0)=true by simpa using h0,ifB_true]
  simp only [ne_eq,h0,not_false_eq_true,if_true]
  exact ⟨[],0,by first | rfl | trivial,fun h=>h.elim⟩
end Go.G
