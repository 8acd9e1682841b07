/- LW2: the fewest steps from all chords to one: what stepsTo finds. In plain Lean, no program in sight. -/
import Derived.Test.YtlkpfhdlfapfhacGreatDoorLW1
import Derived.Test.YtlkpfhdlfapfhacGreatDoorLM
namespace Go.G
open Go Go.J
set_option linter.unusedSimpArgs false
def allW:List TChord:=(List.range 12).flatMap fun r:Nat=>(List.range 7).flatMap fun j:Nat=>[⟨(r:Int),((1+j:Nat):Int),0⟩]
theorem allW_len:allW.length=84:=by decide +kernel
theorem rangeM_appW {α β ρ : Type} (step:Nat → α → List β → Option (Flow (List β) ρ)) (G:Nat→List β) (N B:Nat) (xs:List α) (s0:List β) (h0:s0.length≤N)
  (hG:∀ i,i<xs.length→(G i).length≤B) (h:∀ i x s,xs[i]? = some x→s.length≤N+i*B→step i x s=some (.nxt (s++G i))):rangeM step 0 xs s0=some (.brk (s0++(List.range xs.length).flatMap G)):=by
 obtain ⟨s,h1,h2,-⟩:=rangeM_invx step xs (fun i s=>s=s0++(List.range i).flatMap G∧s.length≤N+i*B) (by
  rintro i x s hx ⟨rfl,hl⟩
  have hi:=(List.getElem?_eq_some_iff.1 hx).1
  refine ⟨_,h i x _ hx hl,?_,?_⟩
  ·rw [List.range_succ,List.flatMap_append,List.append_assoc]; simp
  ·rw [List.length_append,Nat.add_mul]
   have:=hG i hi
   omega) s0 ⟨by simp,by simpa using h0⟩
 rw [h1,h2]
theorem loop_to8W {β ρ : Type} (step:Int × List β → Option (Flow (Int × List β) ρ)) (G:Nat→List β) (N B:Nat) (hG:∀ k,1≤k→k≤7→(G k).length≤B)
  (h:∀ (k:Nat) s,1≤k→k≤7→s.length≤N+k*B→step ((k:Int),s)=some (.nxt (((k+1:Nat):Int),s++G k))) (h8:∀ s,step (8,s)=some (.brk (8,s))) (s0:List β) (h0:s0.length≤N) :
  loopM step (1,s0)=some (.brk (8,s0++(List.range 7).flatMap fun j=>G (1+j))):=by
 have key:∀ (d k:Nat) (s:List β),k+d=8→1≤k→s.length≤N+k*B→loopM step ((k:Int),s)=some (.brk (8,s++(List.range d).flatMap fun j=>G (k+j))):=by
  intro d
  induction d with
  | zero =>
   intro k s hk _ _
   have:k=8:=by omega
   subst this
   rw [show ((8:Nat):Int)=8 from rfl,loopM_step (h8 s),run_brk]; simp
  | succ d ih =>
   intro k s hk h1 hl
   rw [loopM_step (h k s h1 (by omega) hl),run_nxt]
   rw [ih (k+1) (s++G k) (by omega) (by omega) (by rw [List.length_append,Nat.add_mul]; have:=hG k h1 (by omega); omega)]
   rw [List.range_succ_eq_map,List.flatMap_cons,List.flatMap_map,List.append_assoc]
   simp only [Nat.add_zero,Nat.add_assoc,Nat.add_comm 1,Nat.succ_eq_add_one]
 exact key 7 1 s0 rfl (Nat.le_refl _) (by omega)
theorem all_spec:m_chord_all=some allW:=by
 unfold m_chord_all
 rw [rangeI_of (by omega),Option.bind_some,rangeM_appW m_chord_all_l1 (fun r:Nat=>(List.range 7).flatMap fun j:Nat=>[⟨(r:Int),((1+j:Nat):Int),0⟩]) 0 7 (List.range (12:Int).toNat) [] (by simp) (fun i _=>by simp [List.length_flatMap]; decide) (by
  intro i x s hx hs
  have hi:i<12:=by have:=(List.getElem?_eq_some_iff.1 hx).1; simpa using this
  unfold m_chord_all_l1
  rw [loop_to8W (m_chord_all_l2 i) (fun k=>[⟨(i:Int),(k:Int),0⟩]) (0+i*7) 1 (fun k _ _=>by simp) (by
   intro k s h1 h7 hs
   unfold m_chord_all_l2
   simp only []
   rw [ifB_ite,if_pos (by omega),appM_of (by simp; omega) (by omega),Option.bind_some]
   have:w64 ((k:Int)+1)=((k+1:Nat):Int):=by rw [w64_id (by omega)]; omega
   rw [this]) (by
   intro s
   unfold m_chord_all_l2
   simp only []
   rw [ifB_ite,if_neg (by omega)]) s (by omega)]
  rfl)]
 simp [allW]
def cntW (m:List (TChord × Int)):Nat:=(allW.filter fun x=>!hasM m x).length
theorem has_lk {m:List (TChord × Int)} {x:TChord}:hasM m x=true↔∃ d,lkM m x=some d:=by rw [lkM_has,Option.isSome_iff_exists]
theorem hasN_lk {m:List (TChord × Int)} {x:TChord}:hasM m x=false↔lkM m x=none:=by rw [lkM_has]; cases lkM m x <;> simp
theorem cntW_put {m:List (TChord × Int)} {x:TChord} (hx:x∈allW) (h:hasM m x=false) (v:Int):cntW (putM m x v)+1≤cntW m:=by
 unfold cntW
 have hsub:∀ y,(!hasM (putM m x v) y)=true→(!hasM m y)=true:=fun y hy=>by
  cases hm:hasM m y with
  | false=>rfl
  | true =>
   exfalso
   obtain ⟨d,hd⟩:=has_lk.1 hm
   have hyx:y≠x:=fun e=>by subst e; rw [hm] at h; cases h
   have:hasM (putM m x v) y=true:=has_lk.2 ⟨d,by rw [lkM_put,if_neg hyx,hd]⟩
   rw [this] at hy; cases hy
 have e:(allW.filter fun y=>!hasM (putM m x v) y)=(allW.filter fun y=>!hasM m y).filter fun y=>!hasM (putM m x v) y:=by
  rw [List.filter_filter]
  refine List.filter_congr fun y _=>?_
  cases h1:(!hasM (putM m x v) y) with
  | false=>simp
  | true=>rw [hsub y h1]; rfl
 rw [e]
 refine List.length_filter_lt_length_iff_exists.2 ⟨x,List.mem_filter.2 ⟨hx,by rw [h]; rfl⟩,?_⟩
 rw [has_lk.2 ⟨v,lkM_put_same m x v⟩]
 simp
section
variable (f:List TFollow) (b:TChord)
structure StepsW (m:List (TChord × Int)):Prop where
 base:lkM m b=some 0
 nn:∀ x d,lkM m x=some d→0≤d∧d≤84
 back:∀ x d,lkM m x=some d→(x=b∧d=0)∨(x∈allW∧1≤d∧∃ y,lkM m y=some (d - 1)∧mayB f x y=true)
 clos:∀ p e,lkM m p=some e→∀ x,x∈allW→mayB f x p=true→∃ d,lkM m x=some d∧d≤e+1
structure SearchW (m:List (TChord × Int)) (q P:List TChord):Prop where
 base:lkM m b=some 0
 nn:∀ x d,lkM m x=some d→0≤d∧d+cntW m≤84
 back:∀ x d,lkM m x=some d→(x=b∧d=0)∨(x∈allW∧1≤d∧∃ y,lkM m y=some (d - 1)∧mayB f x y=true)
 part:∀ x d,lkM m x=some d→x∈P∨x∈q
 qk:∀ x,x∈q→∃ d,lkM m x=some d
 clos:∀ p,p∈P→∃ e,lkM m p=some e∧∀ x,x∈allW→mayB f x p=true→∃ d,lkM m x=some d∧d≤e+1
 ord:∀ p,p∈P→∀ y,y∈q→(lkM m p).getD 0≤(lkM m y).getD 0
 sorted:q.Pairwise fun x y=>(lkM m x).getD 0≤(lkM m y).getD 0
 span:∀ y,y∈q→∀ z d,lkM m z=some d→d≤(lkM m y).getD 0+1
structure RoundW (m0:List (TChord × Int)) (c:TChord) (dc:Int) (qt:List TChord) (i:Nat) (m:List (TChord × Int)) (q:List TChord):Prop where
 ext:∀ z d,lkM m0 z=some d→lkM m z=some d
 new:∀ z d,lkM m z=some d→lkM m0 z=some d∨(d=dc+1∧z∈allW∧mayB f z c=true∧z∈q)
 tail:∃ ns,q=qt++ns∧∀ y,y∈ns→lkM m y=some (dc+1)
 done:∀ j x,j<i→allW[j]? = some x→mayB f x c=true→∃ d,lkM m x=some d
 cnt:2*cntW m+q.length≤2*cntW m0+qt.length
 nn:∀ x d,lkM m x=some d→0≤d∧d+cntW m≤84
end
theorem round_step {f:List TFollow} {c:TChord} {m0:List (TChord × Int)} {dc:Int} {qt:List TChord} {i:Nat} {x:TChord} {m:List (TChord × Int)} {q:List TChord} (hc:lkM m0 c=some dc) (hq:2*cntW m0+qt.length≤1000)
  (hx:allW[i]? = some x) (h:RoundW f m0 c dc qt i m q):∃ m' q',m_chord_stepsTo_l2 f c i x (m,q)=some (.nxt (m',q'))∧RoundW f m0 c dc qt (i+1) m' q':=by
 have hcm:=h.ext c dc hc
 have hxm:x∈allW:=List.mem_of_getElem? hx
 unfold m_chord_stepsTo_l2
 simp only []
 cases hh:hasM m x with
 | true =>
  refine ⟨m,q,by simp only [Bool.not_true,ifB_false,Option.bind_some,fin_inl],⟨h.ext,h.new,h.tail,fun j y hj hy he=>?_,h.cnt,h.nn⟩⟩
  rcases Nat.lt_succ_iff_lt_or_eq.1 hj with h1 | h1
  ·exact h.done j y h1 hy he
  ·subst h1; rw [hx] at hy; cases hy; exact has_lk.1 hh
 | false =>
  simp only [Bool.not_false,ifB_true,may_spec,Option.bind_some,fin_inl]
  cases hm:mayB f x c with
  | false =>
   refine ⟨m,q,rfl,⟨h.ext,h.new,h.tail,fun j y hj hy he=>?_,h.cnt,h.nn⟩⟩
   rcases Nat.lt_succ_iff_lt_or_eq.1 hj with h1 | h1
   ·exact h.done j y h1 hy he
   ·subst h1; rw [hx] at hy; cases hy; rw [hm] at he; cases he
  | true =>
   have hc1:=h.cnt
   have hp:=cntW_put hxm hh (dc+1)
   obtain ⟨hc2,hc3⟩:=h.nn c dc hcm
   rw [ifB_true,appM_of (by simp; omega) (by omega),Option.bind_some,hcm]
   simp only [Option.getD_some]
   rw [w64_id (by omega)]
   have hn:=hasN_lk.1 hh
   refine ⟨_,_,rfl,⟨fun z d hz=>?_,fun z d hz=>?_,?_,fun j y hj hy he=>?_,?_,fun z d hz=>?_⟩⟩
   ·have h1:=h.ext z d hz
    rw [lkM_put,if_neg (fun e=>by subst e; rw [hn] at h1; cases h1)]
    exact h1
   ·rw [lkM_put] at hz
    split at hz
    ·rename_i e
     cases hz
     subst e
     exact .inr ⟨rfl,hxm,hm,by simp⟩
    ·rcases h.new z d hz with h1 | ⟨h1,h2,h3,h4⟩
     ·exact .inl h1
     ·exact .inr ⟨h1,h2,h3,List.mem_append_left _ h4⟩
   ·obtain ⟨ns,rfl,h2⟩:=h.tail
    refine ⟨ns++[x],by rw [List.append_assoc],fun y hy=>?_⟩
    rw [lkM_put]
    split
    ·rfl
    ·rename_i e
     rcases List.mem_append.1 hy with h3 | h3
     ·exact h2 y h3
     ·exact (e (by simpa using h3)).elim
   ·rcases Nat.lt_succ_iff_lt_or_eq.1 hj with h1 | h1
    ·obtain ⟨d,hd⟩:=h.done j y h1 hy he
     rw [lkM_put]
     split
     ·exact ⟨_,rfl⟩
     ·exact ⟨d,hd⟩
    ·subst h1; rw [hx] at hy; cases hy
     exact ⟨_,lkM_put_same _ _ _⟩
   ·rw [List.length_append,List.length_singleton]; omega
   ·rw [lkM_put] at hz
    split at hz
    ·cases hz
     omega
    ·have:=h.nn z d hz
     omega
theorem stepsTo_spec (f:List TFollow) (b:TChord):∃ m,m_chord_stepsTo f b=some m∧StepsW f b m:=by
 unfold m_chord_stepsTo
 have hb:lkM (putM ([]:List (TChord × Int)) b 0) b=some 0:=lkM_put_same _ _ _
 have hc84:∀ m,cntW m≤84:=fun m=>by
  unfold cntW
  have:=List.length_filter_le (fun x=>!hasM m x) allW
  rw [allW_len] at this
  exact this
 have hk:∀ z d,lkM (putM ([]:List (TChord × Int)) b 0) z=some d→z=b∧d=0:=fun z d hz=>by
  rw [lkM_put] at hz
  split at hz
  ·cases hz; exact ⟨by assumption,rfl⟩
  ·cases hz
 obtain ⟨fl,hf,m,q,hfl,P,hP,hq⟩:=loopM_post (m_chord_stepsTo_l1 f) (fun s=>∃ P,SearchW f b s.1 s.2 P∧2*cntW s.1+s.2.length≤1000) (fun s=>2*cntW s.1+s.2.length) (fun fl=>∃ m q,fl = .brk (m,q)∧∃ P,SearchW f b m q P∧q=[]) (by
  rintro ⟨m,q⟩ ⟨P,h,hn⟩
  simp only at h hn ⊢
  cases q with
  | nil=>exact .inr (.inl ⟨(m,[]),by simp [m_chord_stepsTo_l1],m,[],rfl,P,h,rfl⟩)
  | cons c qt =>
   obtain ⟨dc,hc⟩:=h.qk c (List.mem_cons_self ..)
   have hn':2*cntW m+qt.length≤1000:=by simp at hn; omega
   obtain ⟨⟨m',q'⟩,h1,h2⟩:=rangeM_invx (m_chord_stepsTo_l2 f c) allW (fun i (s:List (TChord × Int) × List TChord)=>RoundW f m c dc qt i s.1 s.2) (by
    rintro i x ⟨m1,q1⟩ hx hI
    obtain ⟨m2,q2,e1,e2⟩:=round_step hc hn' hx hI
    exact ⟨(m2,q2),e1,e2⟩) (m,qt) ⟨fun _ _ h=>h,fun _ _ h=>.inl h,⟨[],by simp,fun _ h=>by cases h⟩,fun _ _ h=>(by omega),Nat.le_refl _,h.nn⟩
   simp only at h2
   left
   refine ⟨(m',q'),?_,⟨P++[c],?_,?_⟩,?_⟩
   ·unfold m_chord_stepsTo_l1
    simp only []
    rw [ifB_ite,if_pos (by simp),show getI (c::qt) 0=some c from rfl,Option.bind_some,show sliceI (c::qt) 1 ((c::qt).length:Int)=some qt by
     rw [sliceI_of (xs:=c::qt) (lo:=1) (hi:=((c::qt).length:Int)) (a:=1) (b:=qt.length+1) rfl (by simp) (by omega) (by simp)]
     simp,Option.bind_some,all_spec,Option.bind_some,h1]
    rfl
   ·obtain ⟨ns,hq',hns⟩:=h2.tail
    have hge:∀ z d,lkM m z=some d→d≤dc+1:=fun z d hz=>by
     have:=h.span c (List.mem_cons_self ..) z d hz
     rw [hc] at this; exact this
    have hge':∀ z d,lkM m' z=some d→d≤dc+1:=fun z d hz=>by
     rcases h2.new z d hz with h3 | ⟨h3,-⟩
     ·exact hge z d h3
     ·omega
    have hgd:∀ z,(∃ d,lkM m z=some d)→(lkM m' z).getD 0=(lkM m z).getD 0:=fun z ⟨d,hd⟩=>by rw [hd,h2.ext z d hd]
    have hqt:∀ y,y∈qt→∃ d,lkM m y=some d:=fun y hy=>h.qk y (List.mem_cons_of_mem _ hy)
    have hlow:∀ y,y∈qt→dc≤(lkM m y).getD 0:=fun y hy=>by
     have:=(List.pairwise_cons.1 h.sorted).1 y hy
     rw [hc] at this; exact this
    have hlow':∀ y,y∈q'→dc≤(lkM m' y).getD 0:=fun y hy=>by
     rw [hq'] at hy
     rcases List.mem_append.1 hy with h3 | h3
     ·rw [hgd y (hqt y h3)]; exact hlow y h3
     ·rw [hns y h3]; simp only [Option.getD_some]; omega
    refine ⟨h2.ext _ _ h.base,h2.nn,fun x d hx=>?_,fun x d hx=>?_,fun x hx=>?_,fun p hp=>?_,fun p hp y hy=>?_,?_,fun y hy z d hz=>?_⟩
    ·rcases h2.new x d hx with h3 | ⟨h3,h4,h5,-⟩
     ·rcases h.back x d h3 with h6 | ⟨h6,h7,y,h8,h9⟩
      ·exact .inl h6
      ·exact .inr ⟨h6,h7,y,h2.ext _ _ h8,h9⟩
     ·have:=(h.nn c dc hc).1
      exact .inr ⟨h4,by omega,c,by rw [h2.ext c dc hc,h3]; congr 1; omega,h5⟩
    ·rcases h2.new x d hx with h3 | ⟨-,-,-,h4⟩
     ·rcases h.part x d h3 with h5 | h5
      ·exact .inl (List.mem_append_left _ h5)
      ·rcases List.mem_cons.1 h5 with rfl | h5
       ·exact .inl (by simp)
       ·exact .inr (by rw [hq']; exact List.mem_append_left _ h5)
     ·exact .inr h4
    ·rw [hq'] at hx
     rcases List.mem_append.1 hx with h3 | h3
     ·obtain ⟨d,hd⟩:=hqt x h3
      exact ⟨d,h2.ext _ _ hd⟩
     ·exact ⟨_,hns x h3⟩
    ·rcases List.mem_append.1 hp with h3 | h3
     ·obtain ⟨e,he,hcl⟩:=h.clos p h3
      refine ⟨e,h2.ext _ _ he,fun x hx hxe=>?_⟩
      obtain ⟨d,hd,hde⟩:=hcl x hx hxe
      exact ⟨d,h2.ext _ _ hd,hde⟩
     ·have:p=c:=by simpa using h3
      subst this
      refine ⟨dc,h2.ext _ _ hc,fun x hx hxe=>?_⟩
      obtain ⟨j,hj,hjx⟩:=List.getElem_of_mem hx
      obtain ⟨d,hd⟩:=h2.done j x hj (by rw [List.getElem?_eq_getElem hj,hjx]) hxe
      exact ⟨d,hd,hge' x d hd⟩
    ·rcases List.mem_append.1 hp with h3 | h3
     ·obtain ⟨e,he,-⟩:=h.clos p h3
      have h4:=h.ord p h3 c (List.mem_cons_self ..)
      rw [hc,Option.getD_some] at h4
      rw [hgd p ⟨e,he⟩]
      exact Int.le_trans h4 (hlow' y hy)
     ·have:p=c:=by simpa using h3
      subst this
      rw [h2.ext _ _ hc]
      exact hlow' y hy
    ·rw [hq',List.pairwise_append]
     refine ⟨?_,?_,fun x hx y hy=>?_⟩
     ·refine (List.pairwise_cons.1 h.sorted).2.imp_of_mem fun {x y} hx hy hxy=>?_
      rw [hgd x (hqt x hx),hgd y (hqt y hy)]
      exact hxy
     ·refine List.pairwise_of_forall_mem_list fun x hx y hy=>?_
      rw [hns x hx,hns y hy]
      exact Int.le_refl _
     ·rw [hns y hy]
      obtain ⟨d,hd⟩:=hqt x hx
      rw [h2.ext _ _ hd]
      exact hge x d hd
    ·have h3:=hlow' y hy
     have h4:=hge' z d hz
     show d≤(lkM m' y).getD 0+1
     omega
   ·have:=h2.cnt
    show 2*cntW m'+q'.length≤1000
    omega
   ·have:=h2.cnt
    show 2*cntW m'+q'.length<2*cntW m+(c::qt).length
    rw [List.length_cons]; omega) (putM ([]:List (TChord × Int)) b 0,[b]) ⟨[],⟨hb,fun x d hx=>by
   obtain ⟨-,rfl⟩:=hk x d hx
   have:=hc84 (putM ([]:List (TChord × Int)) b 0)
   show (0:Int)≤0∧(0:Int)+cntW (putM ([]:List (TChord × Int)) b 0)≤84
   omega,fun x d hx=>.inl (hk x d hx),fun x d hx=>.inr (by rw [(hk x d hx).1]; simp),fun x hx=>⟨0,by rw [List.mem_singleton.1 hx]; exact hb⟩,fun p hp=>(by cases hp),fun p hp=>(by cases hp),List.pairwise_singleton _ _,fun y hy z d hz=>by
   rw [(hk z d hz).2,List.mem_singleton.1 hy,hb]
   decide⟩,by
   have:=hc84 (putM ([]:List (TChord × Int)) b 0)
   show 2*cntW (putM ([]:List (TChord × Int)) b 0)+1≤1000
   omega⟩
 subst hfl hq
 rw [hf]
 refine ⟨m,rfl,⟨hP.base,fun x d hx=>?_,hP.back,fun p e hp x hx hxe=>?_⟩⟩
 ·have:=hP.nn x d hx
  omega
 ·rcases hP.part p e hp with h1 | h1
  ·obtain ⟨e',he',hcl⟩:=hP.clos p h1
   rw [hp] at he'; cases he'
   exact hcl x hx hxe
  ·cases h1
end Go.G
