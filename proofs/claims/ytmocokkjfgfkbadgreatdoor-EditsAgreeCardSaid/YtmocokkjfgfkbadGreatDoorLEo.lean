/- LEo: the order of edits; parts of right edits are right, and merged they are all of them. In plain Lean, no program in sight. -/
import Derived.Test.YtmocokkjfgfkbadGreatDoorLEd
namespace Go.G
open Go Go.J
set_option linter.unusedSimpArgs false
set_option linter.unusedVariables false
def RO (a b:TEdit):Prop:=a.At<b.At∨(a.At=b.At∧(a.By.data.toList<b.By.data.toList∨(a.By=b.By∧a.No<b.No)))
theorem byE_inj {a b:ByteArray} (h:a.data.toList=b.data.toList):a=b:=by
 have:a.data=b.data:=Array.toList_inj.1 h
 cases a; cases b; simpa using this
theorem cIE_neg {a b:Int}:cIE a b<0↔a<b:=by
 unfold cIE
 split
 ·omega
 ·split <;> omega
theorem cmpE_lt (a b:TEdit):cmpE a b<0↔RO a b:=by
 unfold cmpE RO
 by_cases h1:a.At=b.At
 ·rw [if_neg (by simpa using cIE_zero.2 h1)]
  have e1:¬ a.At<b.At:=by omega
  by_cases h2:a.By=b.By
  ·rw [if_neg (by simpa using cB3_zero.2 h2),cIE_neg]
   constructor
   ·exact fun h=>.inr ⟨h1,.inr ⟨h2,h⟩⟩
   ·rintro (h | ⟨-,h | ⟨-,h⟩⟩)
    ·exact (e1 h).elim
    ·rw [h2] at h; exact (bs_irr _ h).elim
    ·exact h
  ·have hne:cB3 a b≠0:=fun e=>h2 (cB3_zero.1 e)
   rw [if_pos hne]
   unfold cB3
   rcases cb_spec a.By.data.toList b.By.data.toList with ⟨g1,g2⟩ | ⟨g1,g2⟩ | ⟨g1,g2⟩
   ·rw [g1]
    exact ⟨fun _=>.inr ⟨h1,.inl g2⟩,fun _=>by decide⟩
   ·exact (h2 (byE_inj g2)).elim
   ·rw [g1]
    constructor
    ·intro h; exact absurd h (by decide)
    ·rintro (h | ⟨-,h | ⟨h,-⟩⟩)
     ·exact (e1 h).elim
     ·exact (bs_asym h g2).elim
     ·exact (h2 h).elim
 ·have hne:cIE a.At b.At≠0:=fun e=>h1 (cIE_zero.1 e)
  rw [if_pos hne,cIE_neg]
  exact ⟨fun h=>.inl h,fun h=>h.resolve_right fun g=>h1 g.1⟩
theorem RO_trans (a b c:TEdit) (h1:RO a b) (h2:RO b c):RO a c:=by
 unfold RO at *
 rcases h1 with h1 | ⟨h1,g1⟩
 ·rcases h2 with h2 | ⟨h2,-⟩
  ·exact .inl (by omega)
  ·exact .inl (by omega)
 ·rcases h2 with h2 | ⟨h2,g2⟩
  ·exact .inl (by omega)
  ·refine .inr ⟨by omega,?_⟩
   rcases g1 with g1 | ⟨g1,k1⟩
   ·rcases g2 with g2 | ⟨g2,-⟩
    ·exact .inl (bs_trans g1 g2)
    ·exact .inl (g2 ▸ g1)
   ·rcases g2 with g2 | ⟨g2,k2⟩
    ·exact .inl (g1 ▸ g2)
    ·exact .inr ⟨g1.trans g2,by omega⟩
theorem RO_irr (a:TEdit):¬ RO a a:=by
 unfold RO
 rintro (h | ⟨-,h | ⟨-,h⟩⟩)
 ·omega
 ·exact bs_irr _ h
 ·omega
theorem RO_tri (a b:TEdit) (h:kE a≠kE b):RO a b∨RO b a:=by
 unfold RO
 by_cases h1:a.At=b.At
 ·rcases bs_tri (a.By.data.toList) (b.By.data.toList) with g | g | g
  ·exact .inl (.inr ⟨h1,.inl g⟩)
  ·have e:=byE_inj g
   have hn:a.No≠b.No:=fun e2=>h (by unfold kE; rw [e,e2])
   rcases Int.lt_or_gt_of_ne hn with q | q
   ·exact .inl (.inr ⟨h1,.inr ⟨e,q⟩⟩)
   ·exact .inr (.inr ⟨h1.symm,.inr ⟨e.symm,q⟩⟩)
  ·exact .inr (.inr ⟨h1.symm,.inl g⟩)
 ·rcases Int.lt_or_gt_of_ne h1 with q | q
  ·exact .inl (.inl q)
  ·exact .inr (.inl q)
theorem sorted_extE:∀ (a b:List TEdit),a.Pairwise RO→b.Pairwise RO→(∀ z,z∈a↔z∈b)→a=b:=by
 intro a
 induction a with
 | nil =>
  intro b _ _ h
  cases b with
  | nil=>rfl
  | cons y b=>exact absurd ((h y).2 (List.mem_cons_self ..)) (by simp)
 | cons x a ih =>
  intro b ha hb h
  cases b with
  | nil=>exact absurd ((h x).1 (List.mem_cons_self ..)) (by simp)
  | cons y b =>
   rw [List.pairwise_cons] at ha hb
   have hxy:x=y:=by
    rcases List.mem_cons.1 ((h x).1 (List.mem_cons_self ..)) with g | g
    ·exact g
    ·rcases List.mem_cons.1 ((h y).2 (List.mem_cons_self ..)) with k | k
     ·exact k.symm
     ·exact (RO_irr x (RO_trans _ _ _ (ha.1 y k) (hb.1 x g))).elim
   subst hxy
   congr 1
   refine ih b ha.2 hb.2 fun z=>⟨fun hz=>?_,fun hz=>?_⟩
   ·rcases List.mem_cons.1 ((h z).1 (List.mem_cons_of_mem _ hz)) with g | g
    ·subst g; exact (RO_irr _ (ha.1 _ hz)).elim
    ·exact g
   ·rcases List.mem_cons.1 ((h z).2 (List.mem_cons_of_mem _ hz)) with g | g
    ·subst g; exact (RO_irr _ (hb.1 _ hz)).elim
    ·exact g
theorem ord_RO {l:List TEdit} (h:∀ (i:Nat) x y,l[i]? = some x→l[i+1]? = some y→cmpE x y<0):l.Pairwise RO:=by
 induction l with
 | nil=>exact List.Pairwise.nil
 | cons x t ih =>
  have ht:=ih fun i a b ha hb=>h (i+1) a b (by simpa using ha) (by simpa using hb)
  refine List.pairwise_cons.2 ⟨?_,ht⟩
  cases t with
  | nil=>intro y hy; cases hy
  | cons y t =>
   have hxy:RO x y:=(cmpE_lt x y).1 (h 0 x y rfl rfl)
   intro z hz
   rcases List.mem_cons.1 hz with rfl | hz
   ·exact hxy
   ·exact RO_trans _ _ _ hxy ((List.pairwise_cons.1 ht).1 z hz)
theorem RO_ord {l:List TEdit} (h:l.Pairwise RO):∀ (i:Nat) x y,l[i]? = some x→l[i+1]? = some y→cmpE x y<0:=fun i x y hx hy=>by
 obtain ⟨h1,rfl⟩:=List.getElem?_eq_some_iff.1 hx
 obtain ⟨h2,rfl⟩:=List.getElem?_eq_some_iff.1 hy
 exact (cmpE_lt _ _).2 (List.pairwise_iff_getElem.1 h i (i+1) h1 h2 (by omega))
def ltE (a b:TEdit):Bool:=decide (cmpE a b<0)
theorem ltE_iff {a b:TEdit}:ltE a b=true↔RO a b:=by unfold ltE; rw [decide_eq_true_eq]; exact cmpE_lt a b
theorem sortsE (u:List TEdit) (hl:u.length≤1000) (hnd:(u.map kE).Nodup):∃ m,isM m_piece_compare u 0 (u.length:Int)=some m∧m.Perm u∧m.Pairwise RO:=by
 refine ⟨_,isM_ins ltE m_piece_compare u (by omega) fun x _ y _=>⟨_,compare_E x y,rfl⟩,by simpa using fold_perm ltE u [],?_⟩
 refine fold_sorted ltE RO_trans u [] List.Pairwise.nil (fun x _ y hy=>by cases hy) ?_
 have h1:u.Pairwise fun a b=>kE a≠kE b:=by rwa [List.Nodup,List.pairwise_map] at hnd
 exact h1.imp fun {a b} hab=>⟨ltE_iff,(RO_tri a b hab).symm⟩
theorem RE.pw {b:List TBar} {parts:List ByteArray} {l:List TEdit} (h:RE b parts l):l.Pairwise RO:=ord_RO fun i x y hx hy=>by
 have hi:=(List.getElem?_eq_some_iff.1 hy).1
 exact (h.row (i+1) y hi hy).2.2 x (by omega) hx
theorem RE.f0 {b:List TBar} {parts:List ByteArray} {l:List TEdit} (h:RE b parts l):∀ e∈l,m_piece_editFault b parts e=some 0:=fun e he=>by
 obtain ⟨i,hi,rfl⟩:=List.mem_iff_getElem.1 he
 exact (h.row i _ hi (List.getElem?_eq_getElem hi)).2.1
theorem RE.sub {b:List TBar} {parts:List ByteArray} {l p:List TEdit} (h:RE b parts l) (hp:p.Sublist l):RE b parts p :=
 ⟨Nat.le_trans hp.length_le h.len,fun j x hj hx=>by
  have hm:=hp.subset (List.mem_of_getElem? hx)
  refine ⟨h.er x hm,h.f0 x hm,fun y hj0 hy=>?_⟩
  obtain ⟨j,rfl⟩:∃ k,j=k+1:=⟨j - 1,by omega⟩
  rw [Nat.add_sub_cancel] at hy
  exact RO_ord (h.pw.sublist hp) j y x hy hx,h.nd.sublist (hp.map kE)⟩
theorem dup_none:∀ (t pre:List Tpiece_own),(pre++t).Nodup→dupB pre t=false
 | [],pre,_=>rfl
 | k::t,pre,h=>by
  unfold dupB
  rw [dup_none t (pre++[k]) (by simpa using h),Bool.or_false,decide_eq_false_iff_not]
  rw [List.nodup_append] at h
  exact fun hk=>h.2.2 k hk k (List.mem_cons_self ..) rfl
theorem checkEdits_zero {b:List TBar} {parts:List ByteArray} {l:List TEdit} (h:RE b parts l):m_piece_checkEdits b parts l=some 0:=by
 have hl:=h.len
 unfold m_piece_checkEdits
 rw [decide_eq_false (by omega),ifB_false]
 obtain ⟨s,h1,-⟩:=rangeM_invx (m_piece_checkEdits_l1 b parts l) l (fun _ _=>True) (by
  intro i x s hx _
  have hi:=(List.getElem?_eq_some_iff.1 hx).1
  obtain ⟨-,g1,g2⟩:=h.row i x hi hx
  refine ⟨(),?_,trivial⟩
  unfold m_piece_checkEdits_l1
  rw [g1,Option.bind_some,show ((0:Int) != 0)=false from rfl,ifB_false]
  cases i with
  | zero=>rw [decide_eq_false (by omega),ifB_false]
  | succ i =>
   have hpx:l[i]? = some (l[i]'(by omega)):=List.getElem?_eq_getElem _
   have:=g2 _ (by omega) (by rw [Nat.add_sub_cancel]; exact hpx)
   rw [decide_eq_true (by omega),ifB_true,w64_id (by omega),getI_of (n:=i) (by omega) hpx,Option.bind_some,compare_E,Option.bind_some,decide_eq_false (by omega),ifB_false]) () trivial
 obtain ⟨u',h5⟩:=twice_prog l 0 [] [] (fun k=>by simp [lkM])
 rw [dup_none (l.map kE) [] (by simpa using h.nd)] at h5
 rw [h1,Option.bind_some,fin_brk,h5]
 rfl
theorem CheckEdits_zero {b:List TBar} (hbl:b.length≤600) {parts:List ByteArray} (hpl:parts.length≤100000) (hpf:m_gleeref2_PartsFault b parts=some 0) {l:List TEdit} (h:RE b parts l):m_piece_CheckEdits b parts l=some 0:=by
 obtain ⟨pf,h1,-,h3⟩:=PartsFault_E b hbl parts hpl
 rw [hpf] at h1; cases h1
 rw [h3,if_pos rfl,checkEdits_zero h]
theorem nd_lenE:∀ (w e:List TEdit),w.Nodup→(∀ z∈w,z∈e)→w.length≤e.length
 | [],e,_,_=>by simp
 | x::w,e,h,hs=>by
  rw [List.nodup_cons] at h
  have hx:=hs x (List.mem_cons_self ..)
  have h1:=nd_lenE w (e.erase x) h.2 fun z hz=>(List.mem_erase_of_ne (fun e'=>h.1 (by rw [← e']; exact hz))).2 (hs z (List.mem_cons_of_mem _ hz))
  rw [List.length_erase_of_mem hx] at h1
  have:=List.length_pos_of_mem hx
  rw [List.length_cons]
  omega
theorem kE_injOn {e:List TEdit} (h:(e.map kE).Nodup):∀ a∈e,∀ b∈e,kE a=kE b→a=b:=by
 induction e with
 | nil=>intro a ha; cases ha
 | cons y t ih =>
  rw [List.map_cons,List.nodup_cons] at h
  intro a ha b hb e
  rcases List.mem_cons.1 ha with ea | ha'
  ·rcases List.mem_cons.1 hb with eb | hb'
   ·rw [ea,eb]
   ·exact (h.1 (by rw [← ea,e]; exact List.mem_map.2 ⟨b,hb',rfl⟩)).elim
  ·rcases List.mem_cons.1 hb with eb | hb'
   ·exact (h.1 (by rw [← eb,← e]; exact List.mem_map.2 ⟨a,ha',rfl⟩)).elim
   ·exact ih h.2 a ha' b hb' e
theorem addE_ok {e:List TEdit} (hinj:∀ a∈e,∀ b∈e,kE a=kE b→a=b):∀ (t out:List TEdit),(∀ z∈t,z∈e)→(∀ z∈out,z∈e)→(out.map kE).Nodup →
  ∃ w,addE out t=some w∧(∀ z,z∈w↔z∈out∨z∈t)∧(w.map kE).Nodup
 | [],out,_,_,hn=>⟨out,rfl,fun z=>by simp,hn⟩
 | x::t,out,ht,ho,hn=>by
  unfold addE
  have ht':∀ z∈t,z∈e:=fun z hz=>ht z (List.mem_cons_of_mem _ hz)
  cases hf:out.find? (fun o=>decide (kE o=kE x)) with
  | none =>
   have hno:=find_kE.1 hf
   obtain ⟨w,h1,h2,h3⟩:=addE_ok hinj t (out++[x]) ht' (fun z hz=>by
    rcases List.mem_append.1 hz with h | h
    ·exact ho z h
    ·rw [List.mem_singleton.1 h]; exact ht x (List.mem_cons_self ..)) (by
    rw [List.map_append,List.nodup_append]
    refine ⟨hn,by simp,fun a ha c hc hac=>?_⟩
    obtain ⟨o,ho1,rfl⟩:=List.mem_map.1 ha
    rw [List.map_singleton,List.mem_singleton] at hc
    exact hno o ho1 (hac.trans hc))
   refine ⟨w,h1,fun z=>?_,h3⟩
   rw [h2,List.mem_append,List.mem_singleton,List.mem_cons,or_assoc]
  | some o =>
   have hom:=List.mem_of_find?_eq_some hf
   have hk:=List.find?_some hf
   have hk:kE o=kE x:=by simpa using hk
   have:o=x:=hinj o (ho o hom) x (ht x (List.mem_cons_self ..)) hk
   simp only
   rw [if_pos this]
   obtain ⟨w,h1,h2,h3⟩:=addE_ok hinj t out ht' ho hn
   refine ⟨w,h1,fun z=>?_,h3⟩
   rw [h2,List.mem_cons]
   constructor
   ·rintro (h | h)
    ·exact .inl h
    ·exact .inr (.inr h)
   ·rintro (h | h | h)
    ·exact .inl h
    ·exact .inl (by rw [h,← this]; exact hom)
    ·exact .inr h
theorem Merge_parts {b:List TBar} (hbl:b.length≤600) {parts:List ByteArray} (hpl:parts.length≤100000) (hpf:m_gleeref2_PartsFault b parts=some 0) {e p q:List TEdit} (h:RE b parts e) (hE:∀ z∈e,EOk z) (hl:e.length≤12)
  (hp:p.Sublist e) (hq:q.Sublist e) (hc:∀ z∈e,z∈p∨z∈q):m_piece_Merge b parts p q=some (e,0):=by
 have hP:=h.sub hp
 have hQ:=h.sub hq
 have lp:=hp.length_le
 have lq:=hq.length_le
 unfold m_piece_Merge
 rw [CheckEdits_zero hbl hpl hpf hP,Option.bind_some,show ((0:Int) != 0)=false from rfl,ifB_false,checkEdits_zero hQ,Option.bind_some,show ((0:Int) != 0)=false from rfl,ifB_false,Concat_E p q (by omega),Option.bind_some]
 obtain ⟨m',g1⟩:=prog_add (p++q) [] [] 0 (by simp; omega) (fun z hz=>by
  rcases List.mem_append.1 hz with k | k
  ·exact (hE z (hp.subset k)).len
  ·exact (hE z (hq.subset k)).len) (fun _=>rfl)
 rw [addE_self p [] q (by simpa using hP.nd),List.nil_append] at g1
 obtain ⟨w,k1,k2,k3⟩:=addE_ok (kE_injOn h.nd) q p (fun z hz=>hq.subset hz) (fun z hz=>hp.subset hz) hP.nd
 have hw:∀ z,z∈w↔z∈e:=fun z=>by
  rw [k2]
  exact ⟨fun g=>g.elim (fun g=>hp.subset g) (fun g=>hq.subset g),fun g=>hc z g⟩
 have hwn:w.Nodup:=(List.pairwise_map.1 k3).imp fun hne e=>hne (congrArg kE e)
 have hwl:=nd_lenE w e hwn fun z hz=>(hw z).1 hz
 rw [k1] at g1
 rw [g1,Option.bind_some]
 show (Flow.fin (Flow.brk (m',w)) _:Option _)=_
 rw [fin_brk]
 simp only
 obtain ⟨m,s1,s2,s3⟩:=sortP_E w (by omega)
 obtain ⟨m2,r1,r2,r3⟩:=sortsE w (by omega) k3
 rw [s2] at r1; cases r1
 have hme:m=e:=sorted_extE m e r3 h.pw fun z=>by rw [s3.mem_iff,hw]
 rw [decide_eq_false (by omega),ifB_false,s1,Option.bind_some,hme]
theorem partsE_spec (L:List Int) {pos:Int} (x:List TEdit) (hx:x.length≤1000) (hp:0≤pos) (hp':pos≤100000000):∃ p q r,m_gleekeep2_parts_api_Edit L pos x=some (p,q,r)∧p.Sublist x∧q.Sublist x∧∀ a∈x,a∈p∨a∈q:=by
 unfold m_gleekeep2_parts_api_Edit
 obtain ⟨⟨r,p,q⟩,g1,g2,g3,g4,g5,g6⟩:=rangeM_invx (m_gleekeep2_parts_api_Edit_l1 L) x (fun i s=>s.2.1.Sublist (x.take i)∧s.2.2.Sublist (x.take i)∧(∀ a∈x.take i,a∈s.2.1∨a∈s.2.2)∧0≤s.1∧s.1≤pos+i) (by
  rintro i a ⟨r,p,q⟩ ha ⟨h1,h2,h3,h4,h5⟩
  have hi:=(List.getElem?_eq_some_iff.1 ha).1
  simp only at h1 h2 h3 h4 h5
  have hpl:=h1.length_le
  have hql:=h2.length_le
  rw [List.length_take] at hpl hql
  have et:x.take (i+1)=x.take i++[a]:=by rw [List.take_add_one,ha]; rfl
  obtain ⟨v,k1,k2,k3⟩:=Next_spec L (p:=r) (n:=3) h4 (by omega) (by omega)
  unfold m_gleekeep2_parts_api_Edit_l1
  simp only
  have a1:appM 80 p [a]=some (p++[a]):=appM_of (by simp; omega) (by omega)
  have a2:appM 80 q [a]=some (q++[a]):=appM_of (by simp; omega) (by omega)
  have b1:(p++[a]).Sublist (x.take i++[a]):=h1.append (List.Sublist.refl _)
  have b2:(q++[a]).Sublist (x.take i++[a]):=h2.append (List.Sublist.refl _)
  have c1:p.Sublist (x.take i++[a]):=h1.trans (List.sublist_append_left _ _)
  have c2:q.Sublist (x.take i++[a]):=h2.trans (List.sublist_append_left _ _)
  rw [k1,Option.bind_some]
  simp only
  rw [et]
  cases (v==0)
  ·cases (v==1)
   ·simp only [ifB_false,a1,a2,Option.bind_some]
    refine ⟨_,rfl,b1,b2,fun z hz=>?_,by simp only; omega,by simp only; omega⟩
    rcases List.mem_append.1 hz with g | g
    ·rcases h3 z g with g | g
     ·exact .inl (List.mem_append_left _ g)
     ·exact .inr (List.mem_append_left _ g)
    ·exact .inl (List.mem_append_right _ g)
   ·simp only [ifB_false,ifB_true,a2,Option.bind_some]
    refine ⟨_,rfl,c1,b2,fun z hz=>?_,by simp only; omega,by simp only; omega⟩
    rcases List.mem_append.1 hz with g | g
    ·rcases h3 z g with g | g
     ·exact .inl g
     ·exact .inr (List.mem_append_left _ g)
    ·exact .inr (List.mem_append_right _ g)
  ·simp only [ifB_true,a1,Option.bind_some]
   refine ⟨_,rfl,b1,c2,fun z hz=>?_,by simp only; omega,by simp only; omega⟩
   rcases List.mem_append.1 hz with g | g
   ·rcases h3 z g with g | g
    ·exact .inl (List.mem_append_left _ g)
    ·exact .inr g
   ·exact .inl (List.mem_append_right _ g)) (pos,[],[]) ⟨by simp,by simp,by simp,hp,by simp⟩
 rw [List.take_length] at g2 g3 g4
 rw [g1,Option.bind_some,fin_brk]
 exact ⟨p,q,r,rfl,g2,g3,g4⟩
end Go.G
