/- LVa: what is wrong with voices. In plain Lean, no program in sight. -/
import Derived.Test.YtlkpfhdlfapfhacGreatDoorLQ0
import Derived.Test.YtlkpfhdlfapfhacGreatDoorLS1
namespace Go.G
open Go Go.J
set_option linter.unusedSimpArgs false
set_option linter.unusedVariables false
theorem rangeM_appV {α β ρ : Type} (step:Nat → α → List β → Option (Flow (List β) ρ)) (G:Nat→List β) (N B:Nat) (xs:List α) (s0:List β) (h0:s0.length≤N)
  (hG:∀ i,i<xs.length→(G i).length≤B) (h:∀ i x s,xs[i]? = some x→s.length≤N+i*B→step i x s=some (.nxt (s++G i))):rangeM step 0 xs s0=some (.brk (s0++(List.range xs.length).flatMap G)):=by
 obtain ⟨s,h1,h2,-⟩:=rangeM_invx step xs (fun i s=>s=s0++(List.range i).flatMap G∧s.length≤N+i*B) (by
  rintro i x s hx ⟨rfl,hl⟩
  have hi:=(List.getElem?_eq_some_iff.1 hx).1
  refine ⟨_,h i x _ hx hl,?_,?_⟩
  ·rw [List.range_succ,List.flatMap_append,List.append_assoc]; simp
  ·rw [List.length_append,Nat.add_mul]
   have:=hG i hi
   omega) s0 ⟨by simp,by simpa using h0⟩
 rw [h1,h2]
theorem loopM_appV {β ρ : Type} (step:Int × List β → Option (Flow (Int × List β) ρ)) (G:Nat→List β) (n B N:Nat) (hG:∀ k,k<n→(G k).length≤B)
  (h:∀ (k:Nat) s,k<n→s.length≤N+k*B→step ((k:Int),s)=some (.nxt (((k+1:Nat):Int),s++G k))) (hn:∀ (k:Nat) s,n≤k→step ((k:Int),s)=some (.brk ((k:Int),s))) :
  ∀ (d k:Nat) (s:List β),n - k=d→s.length≤N+k*B→∃ z,loopM step ((k:Int),s)=some (.brk (z,s++(List.range' k (n - k)).flatMap G)):=by
 intro d
 induction d with
 | zero =>
  intro k s hk _
  exact ⟨k,by rw [loopM_step (hn k s (by omega)),run_brk,hk]; simp⟩
 | succ d ih =>
  intro k s hk hl
  obtain ⟨z,hz⟩:=ih (k+1) (s++G k) (by omega) (by rw [List.length_append,Nat.add_mul]; have:=hG k (by omega); omega)
  refine ⟨z,?_⟩
  rw [loopM_step (h k s (by omega) hl),run_nxt,hz,List.append_assoc,show n - k=n - (k+1)+1 by omega,List.range'_succ,List.flatMap_cons]
def nt (is:List Int) (k:Nat):Int:=is.getD k 0
theorem nt_get {is:List Int} {k:Nat} (h:k<is.length):is[k]? = some (nt is k):=by
 unfold nt
 rw [List.getD_eq_getElem?_getD,List.getElem?_eq_getElem h]; rfl
def RN (is:List Int):Prop:=is.length≤5∧∀ x∈is,0≤x∧x≤139
theorem RN.nt {is:List Int} (h:RN is) {k:Nat} (hk:k<is.length):0≤nt is k∧nt is k≤139:=h.2 _ (List.mem_of_getElem? (nt_get hk))
def szI (x:Int):Int:=max x (-x)
theorem size_spec {x:Int} (h:-1000≤x∧x≤1000):m_chord_size x=some (szI x):=by
 unfold m_chord_size szI
 rw [w64_id (by omega)]
 congr 2
 omega
def crF (a:Int) (is:List Int) (k:Nat):List TFault:=if nt is k>nt is (k+1) then [⟨a,1,(k:Int),((k+1:Nat):Int)⟩] else []
def faF (a:Int) (is:List Int) (k:Nat):List TFault:=if szI (nt is (k+1) - nt is k)>12 then [⟨a,2,(k:Int),((k+1:Nat):Int)⟩] else []
def stillF (a:Int) (is:List Int):List TFault:=(List.range (is.length - 1)).flatMap (crF a is)++(List.range' 1 (is.length - 1 - 1)).flatMap (faF a is)
theorem crF_len (a:Int) (is:List Int) (k:Nat):(crF a is k).length≤1:=by unfold crF; split <;> simp
theorem faF_len (a:Int) (is:List Int) (k:Nat):(faF a is k).length≤1:=by unfold faF; split <;> simp
theorem flat_len {β : Type} {G:Nat→List β} {B:Nat}:∀ {l:List Nat},(∀ k,k∈l→(G k).length≤B)→(l.flatMap G).length≤l.length*B
 | [],_=>by simp
 | x::l,h=>by
  rw [List.flatMap_cons,List.length_append,List.length_cons,Nat.add_mul]
  have h1:=h x (List.mem_cons_self ..)
  have h2:=flat_len fun k hk=>h k (List.mem_cons_of_mem _ hk)
  omega
theorem still_spec {a:Int} (is:List Int) (h0:1≤is.length) (h:RN is):m_chord_still a is=some (stillF a is):=by
 have hl:=h.1
 unfold m_chord_still
 rw [w64_id (by omega),rangeI_of (by omega),Option.bind_some]
 have hn:((is.length:Int) - 1).toNat=is.length - 1:=by omega
 rw [hn,rangeM_appV (m_chord_still_l1 a is) (crF a is) 0 1 (List.range (is.length - 1)) [] (by simp) (fun k _=>crF_len a is k) (by
  intro i x s hx hs
  have hi:=(List.getElem?_eq_some_iff.1 hx).1
  rw [List.length_range] at hi
  unfold m_chord_still_l1 crF
  rw [getI_of (n:=i) rfl (nt_get (by omega)),Option.bind_some,w64_id (by omega),getI_of (n:=i+1) (by omega) (nt_get (by omega)),Option.bind_some,ifB_ite]
  split
  ·rw [appM_of (by simp; omega) (by omega)]; rfl
  ·rw [List.append_nil]),Option.bind_some,fin_brk]
 rw [List.length_range,List.nil_append]
 have hc:((List.range (is.length - 1)).flatMap (crF a is)).length≤5:=by
  have:=flat_len (G:=crF a is) (B:=1) (l:=List.range (is.length - 1)) (fun k _=>crF_len a is k)
  rw [List.length_range] at this
  omega
 obtain ⟨z,hz⟩:=loopM_appV (m_chord_still_l2 a is) (faF a is) (is.length - 1) 1 5 (fun k _=>faF_len a is k) (by
  intro k s hk hs
  unfold m_chord_still_l2 faF
  simp only []
  rw [ifB_ite,w64_id (n:=(is.length:Int) - 1) (by omega),if_pos (by omega),w64_id (n:=(k:Int)+1) (by omega),getI_of (n:=k+1) (by omega) (nt_get (by omega)),Option.bind_some,getI_of (n:=k) rfl (nt_get (by omega)),Option.bind_some]
  have b1:=h.nt (k:=k) (by omega)
  have b2:=h.nt (k:=k+1) (by omega)
  rw [w64_id (by omega),size_spec (by omega),Option.bind_some,ifB_ite]
  split
  ·rw [appM_of (by simp; omega) (by omega)]; rfl
  ·rw [List.append_nil]; rfl) (by
  intro k s hk
  unfold m_chord_still_l2
  simp only []
  rw [ifB_ite,w64_id (n:=(is.length:Int) - 1) (by omega),if_neg (by omega)]) _ 1 ((List.range (is.length - 1)).flatMap (crF a is)) rfl (by omega)
 have hz':=hz
 rw [show ((1:Nat):Int)=1 from rfl] at hz'
 rw [hz',Option.bind_some,fin_brk]
 rfl
def md (x:Int):Int:=(x.tmod 12+12).tmod 12
def apF (was is:List Int) (low high:Nat) (half:Int):Bool :=
 (decide (nt is low - nt was low>0)&&decide (nt is high - nt was high>0)||decide (nt is low - nt was low<0)&&decide (nt is high - nt was high<0))&&(md (nt was high - nt was low)==half&&md (nt is high - nt is low)==half)
theorem modulo_spec {x:Int} (h:-1000≤x∧x≤1000):m_chord_apart_1 x=some (md x):=by
 unfold m_chord_apart_1 md
 have h2:x.tmod 12<12:=Int.tmod_lt_of_pos x (by omega)
 have h3:-12<x.tmod 12:=by
  have:=Int.tmod_lt_of_pos (-x) (show (0:Int)<12 by omega)
  rw [Int.neg_tmod] at this
  omega
 rw [w64_id (by omega)]
theorem apart_spec {was is:List Int} (hw:RN was) (hi:RN is) (hl:was.length=is.length) {low high:Nat} (h1:low<is.length) (h2:high<is.length) (half:Int):m_chord_apart was is (low:Int) (high:Int) half=some (apF was is low high half):=by
 have b1:=hw.nt (k:=low) (by omega)
 have b2:=hw.nt (k:=high) (by omega)
 have b3:=hi.nt h1
 have b4:=hi.nt h2
 unfold m_chord_apart apF
 rw [getI_of (n:=low) rfl (nt_get h1),Option.bind_some,getI_of (n:=low) rfl (nt_get (hl ▸ h1)),Option.bind_some,getI_of (n:=high) rfl (nt_get h2),Option.bind_some,getI_of (n:=high) rfl (nt_get (hl ▸ h2)),Option.bind_some]
 simp only [Option.bind_some]
 rw [w64_id (n:=nt is low - nt was low) (by omega),w64_id (n:=nt is high - nt was high) (by omega),w64_id (n:=nt was high - nt was low) (by omega),w64_id (n:=nt is high - nt is low) (by omega),modulo_spec (by omega),modulo_spec (by omega)]
 generalize nt is low - nt was low=x
 generalize nt is high - nt was high=y
 simp only [Option.bind_some]
 have e:∀ c:Bool,(Sum.fin (Sum.inl c) fun u5=>ifB u5 (ifB (md (nt was high - nt was low)==half) (some (md (nt is high - nt is low)==half)) (some false)) (some false))=some (c&&(md (nt was high - nt was low)==half&&md (nt is high - nt is low)==half)):=fun c=>by
  rw [fin_inl]
  cases c
  ·rfl
  ·rw [ifB_true,Bool.true_and]
   cases (md (nt was high - nt was low)==half) <;> rfl
 by_cases hx:x>0
 ·have hx':¬ x<0:=by omega
  by_cases hy:y>0
  ·simp only [hx,hy,decide_true,ifB_true,Option.bind_some,e,Bool.true_and,Bool.true_or]
  ·simp only [hx,hy,hx',decide_true,decide_false,ifB_true,ifB_false,Option.bind_some,e,Bool.true_and,Bool.false_and,Bool.false_or]
 ·simp only [hx,decide_false,ifB_false,Bool.false_and,Bool.false_or]
  by_cases hx':x<0
  ·simp only [hx',decide_true,ifB_true,Option.bind_some,e,Bool.true_and]
  ·simp only [hx',decide_false,ifB_false,Option.bind_some,e,Bool.false_and]
def mvF (a:Int) (was is:List Int) (kind half:Int) (low:Nat):List TFault:=(List.range' (low+1) (is.length - (low+1))).flatMap fun high=>if apF was is low high half=true then [⟨a,kind,(low:Int),(high:Int)⟩] else []
def lpF (a:Int) (was is:List Int) (leap:Int) (k:Nat):List TFault:=if szI (nt is k - nt was k)>leap then [⟨a,5,(k:Int),(k:Int)⟩] else []
def movedF (a:Int) (was is:List Int) (leap:Int):List TFault:=(List.range is.length).flatMap (mvF a was is 3 7)++(List.range is.length).flatMap (mvF a was is 4 0)++(List.range is.length).flatMap (lpF a was is leap)
theorem mvF_len (a:Int) (was is:List Int) (kind half:Int) (low:Nat) (hl:is.length≤5):(mvF a was is kind half low).length≤5:=by
 unfold mvF
 have:=flat_len (G:=fun high=>if apF was is low high half=true then [(⟨a,kind,(low:Int),(high:Int)⟩:TFault)] else []) (B:=1) (l:=List.range' (low+1) (is.length - (low+1))) (fun k _=>by split <;> simp)
 rw [List.length_range'] at this
 omega
theorem moved_spec {a:Int} (was is:List Int) (hw:RN was) (h:RN is) (hl:was.length=is.length) (leap:Int):m_chord_moved a was is leap=some (movedF a was is leap):=by
 have hl5:=h.1
 have hkind:∀ (i:Nat) (kind:Int) (half:Int) (s:List TFault),s.length≤1000→(ifB (kind==4) (some (.inl 0)) (some (.inl 7)):Option (Int ⊕ (Flow (List TFault) (List TFault))))=some (.inl half)→m_chord_moved_l1 a was is i kind s=some (.nxt (s++(List.range is.length).flatMap (mvF a was is kind half))):=by
  intro i kind half s hs hh
  unfold m_chord_moved_l1
  rw [hh,Option.bind_some,fin_inl,rangeM_appV (m_chord_moved_l2 a was is kind half) (mvF a was is kind half) 1000 5 is s hs (fun k _=>mvF_len _ _ _ _ _ _ hl5) (by
   intro low x s hx hs
   have hi:=(List.getElem?_eq_some_iff.1 hx).1
   unfold m_chord_moved_l2
   obtain ⟨z,hz⟩:=loopM_appV (m_chord_moved_l3 a was is kind half low) (fun high=>if apF was is low high half=true then [⟨a,kind,(low:Int),(high:Int)⟩] else []) is.length 1 2000 (fun k _=>by split <;> simp) (by
    intro k s hk hs
    unfold m_chord_moved_l3
    simp only []
    rw [ifB_ite,if_pos (by omega),apart_spec hw h hl hi hk,Option.bind_some,w64_id (n:=(k:Int)+1) (by omega)]
    cases apF was is low k half
    ·simp
    ·simp only [ifB_true,if_true]
     rw [appM_of (by simp; omega) (by omega)]; rfl) (by
    intro k s hk
    unfold m_chord_moved_l3
    simp only []
    rw [ifB_ite,if_neg (by omega)]) _ (low+1) s rfl (by omega)
   rw [w64_id (by omega),show (low:Int)+1=((low+1:Nat):Int) by omega,hz,Option.bind_some,fin_brk]
   rfl),Option.bind_some,fin_brk]
 unfold m_chord_moved
 have hfl:∀ kind half,((List.range is.length).flatMap (mvF a was is kind half)).length≤25:=fun kind half=>by
  have:=flat_len (G:=mvF a was is kind half) (B:=5) (l:=List.range is.length) (fun k _=>mvF_len _ _ _ _ _ _ hl5)
  rw [List.length_range] at this
  omega
 have h34:rangeM (m_chord_moved_l1 a was is) 0 [3,4] []=some (.brk ((List.range is.length).flatMap (mvF a was is 3 7)++(List.range is.length).flatMap (mvF a was is 4 0))):=by
  rw [rangeM_cons,hkind 0 3 7 [] (by simp) rfl,Option.bind_some,run_nxt,rangeM_cons,hkind (0+1) 4 0 _ (by rw [List.nil_append]; have:=hfl 3 7; omega) rfl,Option.bind_some,run_nxt,rangeM_nil,List.nil_append]
 rw [h34,Option.bind_some,fin_brk,rangeM_appV (m_chord_moved_l4 a was leap) (lpF a was is leap) 50 1 is _ (by rw [List.length_append]; have:=hfl 3 7; have:=hfl 4 0; omega) (fun k _=>by unfold lpF; split <;> simp) (by
  intro k x s hx hs
  have hi:=(List.getElem?_eq_some_iff.1 hx).1
  have hxn:x=nt is k:=by rw [nt_get hi] at hx; cases hx; rfl
  subst hxn
  have b1:=hw.nt (k:=k) (by omega)
  have b2:=h.nt hi
  unfold m_chord_moved_l4 lpF
  rw [getI_of (n:=k) rfl (nt_get (by omega)),Option.bind_some,w64_id (by omega),size_spec (by omega),Option.bind_some,ifB_ite]
  split
  ·rw [appM_of (by simp; omega) (by omega)]; rfl
  ·rw [List.append_nil]),Option.bind_some,fin_brk]
 rfl
theorem movedF_len (a:Int) (was is:List Int) (leap:Int) (hl:is.length≤5):(movedF a was is leap).length≤60:=by
 unfold movedF
 have h1:=fun kind half=>flat_len (G:=mvF a was is kind half) (B:=5) (l:=List.range is.length) (fun k _=>mvF_len _ _ _ _ _ _ hl)
 have h2:=flat_len (G:=lpF a was is leap) (B:=1) (l:=List.range is.length) (fun k _=>by unfold lpF; split <;> simp)
 have:=h1 3 7
 have:=h1 4 0
 simp only [List.length_append,List.length_range] at *
 omega
theorem stillF_len (a:Int) (is:List Int) (hl:is.length≤5):(stillF a is).length≤10:=by
 unfold stillF
 have h1:=flat_len (G:=crF a is) (B:=1) (l:=List.range (is.length - 1)) (fun k _=>crF_len a is k)
 have h2:=flat_len (G:=faF a is) (B:=1) (l:=List.range' 1 (is.length - 1 - 1)) (fun k _=>faF_len a is k)
 simp only [List.length_append,List.length_range,List.length_range'] at *
 omega
structure RV (v:List (List Int)):Prop where
 len:v.length≤144
 row:∀ is∈v,1≤is.length∧is.length≤5∧∀ x∈is,0≤x∧x≤127
 same:∀ is∈v,∀ js∈v,is.length=js.length
theorem RV.rn {v:List (List Int)} (h:RV v) {is:List Int} (hi:is∈v):RN is:=⟨(h.row is hi).2.1,fun x hx=>by have:=(h.row is hi).2.2 x hx; omega⟩
def atF (v:List (List Int)) (leap:Int) (i:Nat):List TFault:=stillF (i:Int) (v.getD i [])++if i=0 then [] else movedF (i:Int) (v.getD (i - 1) []) (v.getD i []) leap
def faultsF (v:List (List Int)) (leap:Int):List TFault:=(List.range v.length).flatMap (atF v leap)
theorem Faults_loop {v:List (List Int)} (h:RV v) (leap:Int):rangeM (m_chord_Faults_l1 v leap) 0 v []=some (.brk (faultsF v leap)):=by
 have hgd:∀ {i:Nat} {is:List Int},v[i]? = some is→v.getD i []=is:=fun hx=>by rw [List.getD_eq_getElem?_getD,hx]; rfl
 have hlen:=h.len
 have hB:∀ i,i<v.length→(atF v leap i).length≤70:=fun i hi=>by
  have hx:v[i]? = some v[i]:=List.getElem?_eq_getElem hi
  have h1:=h.rn (List.mem_of_getElem? hx)
  unfold atF
  rw [hgd hx,List.length_append]
  have:=stillF_len (i:Int) v[i] h1.1
  have:=movedF_len (i:Int) (v.getD (i - 1) []) v[i] leap h1.1
  split
  ·simp; omega
  ·omega
 rw [rangeM_appV (m_chord_Faults_l1 v leap) (atF v leap) 0 70 v [] (by simp) hB (by
  intro i is s hx hs
  have hi:=(List.getElem?_eq_some_iff.1 hx).1
  have hm:=List.mem_of_getElem? hx
  have h1:=h.rn hm
  unfold m_chord_Faults_l1 atF
  have l1:=stillF_len (i:Int) is h1.1
  rw [hgd hx,still_spec is (h.row is hm).1 h1,Option.bind_some,appM_of (by omega) (by omega),Option.bind_some,ifB_ite]
  cases i with
  | zero=>rw [if_neg (by omega),if_pos rfl,List.append_nil]
  | succ i =>
   have hp:v[i]? = some (v[i]'(by omega)):=List.getElem?_eq_getElem _
   have hpm:=List.mem_of_getElem? hp
   have l2:=movedF_len ((i+1:Nat):Int) (v[i]'(by omega)) is leap h1.1
   rw [if_pos (by omega),w64_id (by omega),getI_of (n:=i) (by omega) hp,Option.bind_some,moved_spec _ _ (h.rn hpm) h1 (h.same _ hpm _ hm),Option.bind_some,appM_of (by rw [List.length_append]; omega) (by omega),Option.bind_some,if_neg (by omega)]
   simp only [Nat.add_sub_cancel]
   rw [hgd hp,List.append_assoc])]
 rw [List.nil_append]
 rfl
theorem anyU {α ρ : Type} (step:Nat → α → Unit→Option (Flow Unit ρ)) (d : α → Bool) (v : ρ):∀ (l:List α) (i:Nat),(∀ i x,x∈l→step i x ()=some (if d x=true then .ret v else .nxt ()))→rangeM step i l ()=some (if l.any d=true then .ret v else .brk ())
 | [],_,_=>rfl
 | x::l,i,h=>by
  rw [rangeM_cons,h i x (List.mem_cons_self ..),List.any_cons]
  cases hd:d x with
  | true=>simp
  | false =>
   simp only [Bool.false_eq_true,if_false,Option.bind_some,run_nxt,Bool.false_or]
   exact anyU step d v l (i+1) fun i x hx=>h i x (List.mem_cons_of_mem _ hx)
theorem cfM_specV {α : Type} (p : α → Option Bool) (d : α → Bool) (l:List α) (hp:∀ x∈l,p x=some (d x)):((ixM p l).bind fun y=>some (decide (y≥0)))=some (l.any d):=by
 obtain ⟨n,h1,h2⟩:=ixM_spec p d l hp
 rw [h1,Option.bind_some]
 rcases h2 with ⟨rfl,h3⟩ | ⟨k,rfl,hk,-,x,hx,hd⟩
 ·congr 1
  rw [decide_eq_false (by omega)]
  symm
  rw [Bool.eq_false_iff]
  intro h
  obtain ⟨x,hx,hd⟩:=List.any_eq_true.1 h
  rw [h3 x hx] at hd; cases hd
 ·congr 1
  rw [decide_eq_true (by omega)]
  symm
  exact List.any_eq_true.2 ⟨x,List.mem_of_getElem? hx,hd⟩
def badL (v:List (List Int)) (x:List Int):Bool:=!decide (1≤(x.length:Int)∧(x.length:Int)≤5)||((x.length:Int) != ((v.getD 0 []).length:Int))
def badN (x:List Int):Bool:=x.any fun n=>!decide (0≤n∧n≤127)
def vfault (v:List (List Int)):Int:=if (v.length:Int)>144 then 2 else if v.any (badL v)=true then 3 else if v.any badN=true then 1 else 0
theorem get0 {v:List (List Int)} {x:List Int} (h:x∈v):getI v 0=some (v.getD 0 []):=by
 cases v with
 | nil=>cases h
 | cons a v=>rfl
theorem voicesFault_spec (v:List (List Int)):m_chord_voicesFault v=some (vfault v):=by
 unfold m_chord_voicesFault vfault
 rw [ifB_ite]
 split
 ·rfl
 ·rw [anyU (m_chord_voicesFault_l1 v) (badL v) 3 v 0 (fun i x hx=>by
   unfold m_chord_voicesFault_l1 badL
   rw [Outside_spec,Option.bind_some,get0 hx]
   cases (!decide (1≤(x.length:Int)∧(x.length:Int)≤5))
   ·simp only [ifB_false,Option.bind_some,fin_inl,Bool.false_or]
    cases ((x.length:Int) != ((v.getD 0 []).length:Int)) <;> rfl
   ·rfl),Option.bind_some]
  cases v.any (badL v)
  ·simp only [Bool.false_eq_true,if_false,fin_brk]
   rw [anyU m_chord_voicesFault_l2 badN 1 v 0 (fun i x hx=>by
    unfold m_chord_voicesFault_l2
    have e:m_slices_ContainsFunc_int_int__chord_voicesFault_1 x=some (badN x):=cfM_specV m_chord_voicesFault_1 (fun n=>!decide (0≤n∧n≤127)) x fun n _=>by
     unfold m_chord_voicesFault_1
     rw [Outside_spec]; rfl
    rw [e,Option.bind_some]
    cases badN x <;> rfl),Option.bind_some]
   cases v.any badN <;> rfl
  ·rfl
theorem vfault_zero {v:List (List Int)} (h:vfault v=0):RV v:=by
 unfold vfault at h
 split at h
 ·omega
 ·rename_i h0
  split at h
  ·omega
  ·rename_i h1
   split at h
   ·omega
   ·rename_i h2
    have g1:∀ x∈v,(1≤x.length∧x.length≤5)∧x.length=(v.getD 0 []).length:=fun x hx=>by
     have:badL v x=false:=by
      cases hb:badL v x with
      | false=>rfl
      | true=>exact (h1 (List.any_eq_true.2 ⟨x,hx,hb⟩)).elim
     have e:(v.getD 0 []).length=(v[0]?.getD []).length:=by rw [List.getD_eq_getElem?_getD]
     unfold badL at this
     simp at this
     omega
    refine ⟨by omega,fun x hx=>⟨(g1 x hx).1.1,(g1 x hx).1.2,fun n hn=>?_⟩,fun x hx y hy=>by rw [(g1 x hx).2,(g1 y hy).2]⟩
    have:badN x=false:=by
     cases hb:badN x with
     | false=>rfl
     | true=>exact (h2 (List.any_eq_true.2 ⟨x,hx,hb⟩)).elim
    unfold badN at this
    rw [List.any_eq_false] at this
    have:=this n hn
    simpa using this
theorem vfault_of {v:List (List Int)} (h:RV v):vfault v=0:=by
 unfold vfault
 have hlen:=h.len
 rw [if_neg (by omega),if_neg,if_neg]
 ·intro hb
  obtain ⟨x,hx,hb⟩:=List.any_eq_true.1 hb
  obtain ⟨n,hn,hb⟩:=List.any_eq_true.1 hb
  have:=(h.row x hx).2.2 n hn
  simp at hb
  omega
 ·intro hb
  obtain ⟨x,hx,hb⟩:=List.any_eq_true.1 hb
  have h1:=h.row x hx
  cases v with
  | nil=>cases hx
  | cons a v =>
   have h2:=h.same x hx a (List.mem_cons_self ..)
   unfold badL at hb
   simp at hb
   omega
theorem Faults_spec {v:List (List Int)} (h:RV v) (leap:Int) (hl:0≤leap∧leap≤24):m_chord_Faults v leap=some (faultsF v leap,0):=by
 unfold m_chord_Faults
 rw [voicesFault_spec,vfault_of h,Option.bind_some,show ((0:Int) != 0)=false from rfl,ifB_false,Outside_spec,Option.bind_some,decide_eq_true hl,Bool.not_true,ifB_false,Faults_loop h,Option.bind_some,fin_brk]
end Go.G
