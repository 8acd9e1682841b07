/- LEb: edits of both lists: Merge is EditsOf. In plain Lean, no program in sight. -/
import Derived.Test.YtlkpfhdlfapfhaaGreatDoorLEa
import Derived.Test.YtlkpfhdlfapfhaaGreatDoorLS2
namespace Go.G
open Go Go.J
set_option linter.unusedSimpArgs false
set_option linter.unusedVariables false
theorem EqualTn (a b:List TTone):m_slices_Equal_api_Tone_api_Tone a b=some (decide (a=b)):=by
 unfold m_slices_Equal_api_Tone_api_Tone
 by_cases hl:a.length=b.length
 ·rw [show ((a.length:Int) != (b.length:Int))=false by simp; omega,ifB_false]
  have key:∀ (t u pre:List TTone) (i:Nat),b=pre++u→i=pre.length→t.length=u.length→(rangeM (m_slices_Equal_api_Tone_api_Tone_l1 b) i t ()).bind (fun f7=>Flow.fin f7 fun _=>some true)=some (decide (t=u)):=by
   intro t
   induction t with
   | nil =>
    intro u pre i _ _ hu
    cases u with
    | nil=>rfl
    | cons y u=>simp at hu
   | cons x t ih =>
    intro u pre i hb hi hu
    cases u with
    | nil=>simp at hu
    | cons y u =>
     have hg:getI b (i:Int)=some y:=getI_of (n:=i) rfl (by rw [hb,hi]; simp)
     rw [rangeM_cons]
     unfold m_slices_Equal_api_Tone_api_Tone_l1
     rw [hg,Option.bind_some]
     by_cases e:x=y
     ·rw [decide_eq_true e,Bool.not_true,ifB_false,Option.bind_some,run_nxt]
      have:=ih u (pre++[y]) (i+1) (by rw [hb]; simp) (by rw [hi]; simp) (by simpa using hu)
      unfold m_slices_Equal_api_Tone_api_Tone_l1 at this
      rw [this,e]
      congr 1
      rw [Bool.eq_iff_iff]; simp
     ·rw [decide_eq_false e,Bool.not_false,ifB_true,Option.bind_some]
      symm
      show some (decide (x::t=y::u))=some false
      rw [decide_eq_false (fun h=>e (List.cons.inj h).1)]
  exact key a b [] 0 rfl rfl hl
 ·rw [show ((a.length:Int) != (b.length:Int))=true by simp; omega,ifB_true,decide_eq_false (fun h=>hl (by rw [h]))]
def sameB (a b:TEdit):Bool:=decide (cmpE a b=0)&&(decide (a.Part=b.Part)&&(a.Bar==b.Bar&&decide (a.Tones=b.Tones)))
theorem cmpE_zero {a b:TEdit}:cmpE a b=0↔a.At=b.At∧a.By=b.By∧a.No=b.No:=by
 unfold cmpE
 by_cases h1:cIE a.At b.At=0
 ·rw [if_neg (by simpa using h1)]
  by_cases h2:cB3 a b=0
  ·rw [if_neg (by simpa using h2),cIE_zero]
   exact ⟨fun h=>⟨cIE_zero.1 h1,cB3_zero.1 h2,h⟩,fun h=>h.2.2⟩
  ·rw [if_pos h2]
   exact ⟨fun h=>absurd h h2,fun h=>absurd (cB3_zero.2 h.2.1) h2⟩
 ·rw [if_pos h1]
  exact ⟨fun h=>absurd h h1,fun h=>absurd (cIE_zero.2 h.1) h1⟩
theorem sameB_iff {a b:TEdit}:sameB a b=true↔a=b:=by
 unfold sameB
 simp only [Bool.and_eq_true,decide_eq_true_eq,beq_iff_eq,cmpE_zero]
 cases a; cases b
 simp only [TEdit.mk.injEq]
 constructor
 ·rintro ⟨⟨h1,h2,h3⟩,h4,h5,h6⟩
  exact ⟨h2,h3,h1,h4,h5,h6⟩
 ·rintro ⟨h2,h3,h1,h4,h5,h6⟩
  exact ⟨⟨h1,h2,h3⟩,h4,h5,h6⟩
theorem same_tail (a b:TEdit):(ifB (cmpE a b==0) (ifB (a.Part.toList==b.Part.toList) (ifB (a.Bar==b.Bar) ((m_slices_Equal_api_Tone_api_Tone a.Tones b.Tones).bind fun y4=>some y4) (some false)) (some false)) (some false))=some (sameB a b):=by
 unfold sameB
 rw [EqualTn,ba_tlE,Option.bind_some]
 have e:(cmpE a b==0)=decide (cmpE a b=0):=by rw [Bool.eq_iff_iff]; simp
 rw [e]
 cases decide (cmpE a b=0) with
 | false=>rfl
 | true =>
  cases decide (a.Part=b.Part) with
  | false=>rfl
  | true=>cases (a.Bar==b.Bar) <;> rfl
theorem same_E (a b:TEdit):m_piece_same a b=some (sameB a b):=by
 unfold m_piece_same
 rw [compare_E,Option.bind_some,same_tail]
theorem sortP_E (u:List TEdit) (hl:u.length≤12):∃ m,m_slices_SortFunc_api_Edit_api_Edit__piece_compare u=some m∧isM m_piece_compare u 0 (u.length:Int)=some m∧m.Perm u:=by
 obtain ⟨m,h1,h2⟩:=isM_total m_piece_compare u (by omega) (fun x _ y _=>⟨_,compare_E x y⟩)
 refine ⟨m,?_,h1,h2⟩
 have e0:∀ (v:List TEdit) a b,m_slices_insertionSortCmpFunc_api_Edit__piece_compare v a b=isM m_piece_compare v a b:=fun _ _ _=>rfl
 unfold m_slices_SortFunc_api_Edit_api_Edit__piece_compare m_bits_Len m_bits_Len64
 rw [show IntKind.wrap .u64 (u.length:Int)=u.length by rw [IntKind.wrap_u64]; omega,if_pos (by omega)]
 simp only [Option.bind_some]
 unfold m_slices_pdqsortCmpFunc_api_Edit__piece_compare
 have h3:∀ k,m_slices_pdqsortCmpFunc_api_Edit__piece_compare_l1 u 0 (u.length:Int) k ()=some (.ret m):=fun k=>by
  unfold m_slices_pdqsortCmpFunc_api_Edit__piece_compare_l1
  rw [w64_id (by omega),decide_eq_true (by omega),ifB_true,e0,h1]; rfl
 rw [loopM_step (h3 _)]; rfl
def addE:List TEdit→List TEdit→Option (List TEdit)
 | out,[]=>some out
 | out,e::t=>match out.find? (fun o=>decide (kE o=kE e)) with
  | none=>addE (out++[e]) t
  | some o=>if o=e then addE out t else none
theorem find_kE {out:List TEdit} {e:TEdit}:(out.find? (fun o=>decide (kE o=kE e))=none↔∀ o∈out,kE o≠kE e):=by
 rw [List.find?_eq_none]
 simp
def MapE (m:List (Tpiece_own × TEdit)) (out:List TEdit):Prop:=∀ e:Tpiece_own,lkM m e=out.find? (fun o=>decide (kE o=e))
theorem prog_add:∀ (t out:List TEdit) (m:List (Tpiece_own × TEdit)) (i:Nat),out.length+t.length≤100000→(∀ e∈t,e.Tones.length≤100000)→MapE m out →
  ∃ m',rangeM m_piece_Merge_l1 i t (m,out)=some (match addE out t with | none=>.ret ([],13) | some w=>.brk (m',w))
 | [],out,m,i,_,_,_=>⟨m,rfl⟩
 | e::t,out,m,i,hl,ht,hm=>by
  rw [List.length_cons] at hl
  rw [rangeM_cons]
  have hk:Tpiece_own.mk e.By e.No=kE e:=rfl
  unfold m_piece_Merge_l1 addE
  simp only [hk]
  rw [hasM_lk,hm (kE e)]
  cases hf:out.find? (fun o=>decide (kE o=kE e)) with
  | none =>
   rw [show (none:Option TEdit).isSome=false from rfl,ifB_false,Option.bind_some,fin_inl]
   simp only [ifB_false,Bool.not_false,ifB_true]
   unfold m_slices_Clone_api_Tone_api_Tone
   rw [appM_of (by simp; have:=ht e (List.mem_cons_self ..); omega) (by omega),Option.bind_some,Option.bind_some,List.nil_append,appM_of (by simp; omega) (by omega),Option.bind_some,Option.bind_some,run_nxt]
   refine prog_add t (out++[e]) (putM m (kE e) e) (i+1) (by simp; omega) (fun o h=>ht o (List.mem_cons_of_mem _ h)) fun k=>?_
   rw [lkM_put,List.find?_append]
   by_cases h:k=kE e
   ·rw [if_pos h,h,hf]; simp
   ·rw [if_neg h,hm k]
    cases out.find? (fun o=>decide (kE o=k)) with
    | some x=>rfl
    | none =>
     have h':¬ kE e=k:=fun e'=>h e'.symm
     simp [h']
  | some x =>
   rw [show (some x:Option TEdit).isSome=true from rfl,ifB_true]
   simp only [Option.getD_some]
   have hx:TEdit.mk x.By x.No x.At x.Part x.Bar x.Tones=x:=rfl
   rw [hx,same_E,Option.bind_some,Option.bind_some,fin_inl]
   by_cases hs:x=e
   ·rw [if_pos hs,sameB_iff.2 hs]
    simp only [Bool.not_true,ifB_false]
    rw [Option.bind_some,run_nxt]
    exact prog_add t out m (i+1) (by omega) (fun o h=>ht o (List.mem_cons_of_mem _ h)) hm
   ·rw [if_neg hs,show sameB x e=false by rw [← Bool.not_eq_true,sameB_iff]; exact hs]
    exact ⟨[],rfl⟩
theorem addE_self:∀ (x out:List TEdit) (y:List TEdit),((out++x).map kE).Nodup→addE out (x++y)=addE (out++x) y
 | [],out,y,_=>by rw [List.nil_append,List.append_nil]
 | e::x,out,y,h=>by
  rw [List.cons_append]
  have hf:out.find? (fun o=>decide (kE o=kE e))=none:=find_kE.2 fun o ho hk=>by
   rw [List.map_append,List.nodup_append] at h
   exact h.2.2 _ (List.mem_map.2 ⟨o,ho,rfl⟩) _ (List.mem_map.2 ⟨e,List.mem_cons_self ..,rfl⟩) hk
  rw [addE,hf]
  simp only
  rw [addE_self x (out++[e]) y (by simpa using h)]
  simp
theorem Concat_E (x y:List TEdit) (hl:x.length+y.length≤100000):m_slices_Concat_api_Edit_api_Edit [x,y]=some (x++y):=by
 unfold m_slices_Concat_api_Edit_api_Edit
 have h1:rangeM m_slices_Concat_api_Edit_api_Edit_l1 0 [x,y] 0=some (.brk ((x.length+y.length:Nat):Int)):=by
  rw [rangeM_cons]
  unfold m_slices_Concat_api_Edit_api_Edit_l1
  rw [w64_id (by omega),decide_eq_false (by omega),ifB_false,Option.bind_some,run_nxt,rangeM_cons,w64_id (by omega),decide_eq_false (by omega),ifB_false,Option.bind_some,run_nxt]
  show some (Flow.brk _)=_
  congr 2
  omega
 have h2:m_slices_Grow_api_Edit_api_Edit__nil ((x.length+y.length:Nat):Int)=some []:=by
  unfold m_slices_Grow_api_Edit_api_Edit__nil
  rw [decide_eq_false (by omega),ifB_false,show w64 (0 - 0)=0 from rfl,w64_id (by omega)]
  by_cases h:((x.length+y.length:Nat):Int) - 0>0
  ·rw [decide_eq_true h,ifB_true,show sliceI ([]:List TEdit) 0 0=some [] from rfl,Option.bind_some]
   unfold growM
   rw [if_pos (by unfold maxLen; omega)]; rfl
  ·rw [decide_eq_false h]; rfl
 rw [h1,Option.bind_some,fin_brk,h2,Option.bind_some,rangeM_cons]
 unfold m_slices_Concat_api_Edit_api_Edit_l2
 rw [appM_of (by simp; omega) (by omega),Option.bind_some,Option.bind_some,run_nxt,rangeM_cons,appM_of (by simp; omega) (by omega),Option.bind_some,Option.bind_some,run_nxt]
 rfl
end Go.G
