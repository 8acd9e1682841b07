/- LPi: Lacking, against the reference. In plain Lean, no program in sight. -/
import Derived.Test.YtkeieikpobfapaaGreatDoorLPh
import Derived.Test.YtkeieikpobfapaaGreatDoorLRl
namespace Go.G
open Go Go.J
set_option linter.unusedSimpArgs false
set_option linter.unusedVariables false
theorem insRev_map {α β : Type} (f : α → β) (lt : α → α → Bool) (lt' : β → β → Bool) (x : α):∀ p:List α,(∀ y∈p,lt' (f x) (f y)=lt x y)→insRev lt' (p.map f) (f x)=(insRev lt p x).map f:=by
 intro p
 induction p with
 | nil=>intro _; rfl
 | cons y t ih =>
  intro h
  rw [List.map_cons,insRev_cons,insRev_cons,h y (List.mem_cons_self ..),ih fun z hz=>h z (List.mem_cons_of_mem _ hz)]
  cases lt x y <;> rfl
theorem ins_map {α β : Type} (f : α → β) (lt : α → α → Bool) (lt' : β → β → Bool) (x : α) (p:List α) (h:∀ y∈p,lt' (f x) (f y)=lt x y):ins lt' (p.map f) (f x)=(ins lt p x).map f:=by
 unfold ins
 rw [← List.map_reverse,insRev_map f lt lt' x p.reverse (fun y hy=>h y (List.mem_reverse.1 hy)),List.map_reverse]
theorem fold_ins_map {α β : Type} (f : α → β) (lt : α → α → Bool) (lt' : β → β → Bool):∀ (U acc:List α),(∀ x∈U,∀ y∈acc,lt' (f x) (f y)=lt x y)→U.Pairwise (fun y x=>lt' (f x) (f y)=lt x y)→(U.map f).foldl (ins lt') (acc.map f)=(U.foldl (ins lt) acc).map f:=by
 intro U
 induction U with
 | nil=>intro acc _ _; rfl
 | cons x U ih =>
  intro acc h hp
  rw [List.map_cons,List.foldl_cons,List.foldl_cons,ins_map f lt lt' x acc (h x (List.mem_cons_self ..))]
  have hp':=List.pairwise_cons.1 hp
  refine ih _ (fun z hz y hy=>?_) hp'.2
  rcases List.mem_cons.1 ((ins_perm lt acc x).subset hy) with e | e
  ·subst e; exact hp'.1 z hz
  ·exact h z (List.mem_cons_of_mem _ hz) y e
theorem count_split {α : Type} (p : α → Bool) (f : α → Int) (n:Int):∀ g:List α,(g.filter fun x=>p x&&decide (f x≥n)).length+g.countP (fun x=>p x&&decide (f x<n))=(g.filter p).length:=by
 intro g
 induction g with
 | nil=>rfl
 | cons x g ih =>
  rw [List.filter_cons,List.filter_cons,List.countP_cons]
  cases p x
  ·simpa using ih
  ·by_cases h:f x<n
   ·rw [decide_eq_true h,decide_eq_false (show ¬ f x≥n by omega)]
    simp only [Bool.true_and,Bool.and_false,Bool.and_true,↓reduceIte,Bool.false_eq_true,List.length_cons]
    omega
   ·rw [decide_eq_false h,decide_eq_true (show f x≥n by omega)]
    simp only [Bool.true_and,Bool.and_false,Bool.and_true,↓reduceIte,Bool.false_eq_true,List.length_cons]
    omega
theorem wishOf_self {w:List TWish} (hw:WiOK w) {x:TWish} (hx:x∈w):wishOf w x.Piece=some x.Need:=by
 unfold wishOf
 cases hf:w.find? (fun y=>decide (y.Piece=x.Piece)) with
 | none=>exact absurd (List.find?_eq_none.1 hf x hx) (by simp)
 | some y =>
  have h1:y.Piece=x.Piece:=by simpa using List.find?_some hf
  have hy:=List.mem_of_find?_eq_some hf
  have hp:=List.pairwise_iff_getElem.1 (wi_pw hw)
  obtain ⟨i,hi,rfl⟩:=List.getElem_of_mem hx
  obtain ⟨j,hj,rfl⟩:=List.getElem_of_mem hy
  have:i=j:=by
   rcases Nat.lt_trichotomy i j with h | h | h
   ·have:=hp i j hi hj h; rw [h1] at this; exact (bs_irr _ this).elim
   ·exact h
   ·have:=hp j i hj hi h; rw [h1] at this; exact (bs_irr _ this).elim
  subst this; rfl
noncomputable def lkK (l:List TSlot) (c:List TCame) (a:Int) (g:List TSings) (x:TWish):Option Lk2:=if (g.any fun y=>sameB y.Piece x.Piece)=true then some ⟨x.Piece,((lackN l c a x.Need x.Piece g:Nat):Int)⟩ else none
theorem lackN_le (l:List TSlot) (c:List TCame) (a n:Int) (p:ByteArray) (g:List TSings):lackN l c a n p g≤g.length:=List.countP_le_length
theorem signLF {m n:Int} (h:0≤m∧m≤1000) (h':0≤n∧n≤1000):∃ c,m_gleeref2_sign (w64 (m - n))=some c∧decide (c<0)=decide (m<n):=by
 rw [sign_s,w64_id (by omega)]
 refine ⟨_,rfl,?_⟩
 by_cases h1:m - n<0
 ·rw [decide_eq_true h1,decide_eq_true (show m<n by omega)]; rfl
 ·rw [decide_eq_false h1,decide_eq_false (show ¬ m<n by omega)]
  cases decide (m - n>0) <;> rfl
theorem stableL (M:List (ByteArray × Int)) (u:List TPair) (hl:u.length≤12) (lt:TPair→TPair→Bool) (hc:∀ x∈u,∀ y∈u,∃ c,m_gleeref2_LackingFor_1 x y M=some c∧decide (c<0)=lt x y):m_slices_SortStableFunc_api_Pair_api_Pair__gleeref2_LackingFor_1 u M=some (u.foldl (ins lt) []):=by
 have e0:∀ (v:List TPair) a b,m_slices_insertionSortCmpFunc_api_Pair__gleeref2_LackingFor_1 v a b M=isM (fun x y=>m_gleeref2_LackingFor_1 x y M) v a b:=fun _ _ _=>rfl
 have h1:=isM_ins lt (fun x y=>m_gleeref2_LackingFor_1 x y M) u (by omega) hc
 unfold m_slices_SortStableFunc_api_Pair_api_Pair__gleeref2_LackingFor_1 m_slices_stableCmpFunc_api_Pair__gleeref2_LackingFor_1
 have g2:m_slices_stableCmpFunc_api_Pair__gleeref2_LackingFor_1_l1 (u.length:Int) M (0,20,u)=some (.brk (0,20,u)):=by
  unfold m_slices_stableCmpFunc_api_Pair__gleeref2_LackingFor_1_l1
  simp only
  rw [decide_eq_false (by omega),ifB_false]
 rw [loopM_step g2,run_brk,Option.bind_some,fin_brk,e0]
 simp only
 rw [h1,Option.bind_some]
 have g4:m_slices_stableCmpFunc_api_Pair__gleeref2_LackingFor_1_l2 (u.length:Int) (20,0,20)=some (.brk (20,0,20)):=by
  unfold m_slices_stableCmpFunc_api_Pair__gleeref2_LackingFor_1_l2
  simp only
  rw [decide_eq_false (by omega),ifB_false]
 rw [loopM_step g4,run_brk]; rfl
theorem lkU_pw {w:List TWish} (hw:WiOK w) (l:List TSlot) (c:List TCame) (a:Int) (g:List TSings):(w.filterMap (lkK l c a g)).Pairwise fun y x=>bytesOf y.piece<bytesOf x.piece:=by
 refine List.Pairwise.filterMap _ (fun x y hxy z hz z' hz'=>?_) (wi_pw hw)
 unfold lkK at hz hz'
 split at hz
 ·split at hz'
  ·cases hz; cases hz'; exact hxy
  ·cases hz'
 ·cases hz
theorem LackingFor_spec {l:List TSlot} {g:List TSings} {c:List TCame} (H:KOK l g c) {w:List TWish} (hw:WiOK w) (hwl:w.length≤12) {a:Int} (ha:isMo a=true) :
  m_gleeref2_LackingFor l g c w a=some (((w.filterMap (lkK l c a g)).foldl (ins ltK) []).map lackP2):=by
 have hgl:=H.hg
 unfold m_gleeref2_LackingFor
 have hbd:∀ (v:List TWish),∀ z∈v.filterMap (lkK l c a g),0≤z.many∧z.many≤1000:=by
  intro v z hz
  obtain ⟨x,_,hx⟩:=List.mem_filterMap.1 hz
  unfold lkK at hx
  split at hx
  ·cases hx
   have:=lackN_le l c a x.Need x.Piece g
   simp only; omega
  ·cases hx
 have hupw:=lkU_pw hw l c a g
 obtain ⟨u,k1,k2,k3⟩:=rangeM_invx (m_gleeref2_LackingFor_l1 l g c w a) w (fun n u=>u.2=((w.take n).filterMap (lkK l c a g)).map lackP2∧∀ z∈(w.take n).filterMap (lkK l c a g),lkM u.1 z.piece=some z.many) (by
  intro i x u hx hI
  have hi:=(List.getElem?_eq_some_iff.1 hx).1
  have htk:w.take (i+1)=w.take i++[x]:=by rw [List.take_add_one,hx]; rfl
  have hxm:=List.mem_of_getElem? hx
  have hfl:=List.length_filter_le (fun y:TSings=>sameB y.Piece x.Piece) g
  unfold m_gleeref2_LackingFor_l1
  rw [singersOf_spec g x.Piece (by omega),Option.bind_some,List.length_map]
  by_cases hany:(g.any fun y=>sameB y.Piece x.Piece)=true
  ·have hK:lkK l c a g x=some ⟨x.Piece,((lackN l c a x.Need x.Piece g:Nat):Int)⟩:=by unfold lkK; rw [if_pos hany]
   have hpos:0<(g.filter fun y:TSings=>sameB y.Piece x.Piece).length:=by
    obtain ⟨y,h1,h2⟩:=List.any_eq_true.1 hany
    exact List.length_pos_of_mem (List.mem_filter.2 ⟨h1,h2⟩)
   have hcs:=count_split (fun y:TSings=>sameB y.Piece x.Piece) (fun y=>rehN l c y a) x.Need g
   have hlk:lackN l c a x.Need x.Piece g=g.countP (fun y:TSings=>sameB y.Piece x.Piece&&decide (rehN l c y a<x.Need)):=rfl
   have hle:=lackN_le l c a x.Need x.Piece g
   rw [decide_eq_true (by omega),ifB_true,ReadyOf_spec H hw x.Piece ha,Option.bind_some,wishOf_self hw hxm,Option.getD_some,List.length_map]
   have hm:w64 (((g.filter fun y:TSings=>sameB y.Piece x.Piece).length:Int) - ((g.filter fun y:TSings=>sameB y.Piece x.Piece&&decide (rehN l c y a≥x.Need)).length:Int))=((lackN l c a x.Need x.Piece g:Nat):Int):=by
    rw [w64_id (by omega)]; omega
   have hul:u.2.length≤12:=by
    rw [hI.1,List.length_map]
    have:=List.length_filterMap_le (lkK l c a g) (w.take i)
    rw [List.length_take] at this
    omega
   rw [hm,lkM_put,if_pos rfl,Option.getD_some,itoa_tot (by omega),Option.bind_some,appM_of (by rw [List.length_singleton]; omega) (by omega)]
   refine ⟨_,rfl,?_,?_⟩
   ·rw [htk,List.filterMap_append,List.map_append,hI.1,List.filterMap_cons,hK]; rfl
   ·intro z hz
    rw [htk,List.filterMap_append,List.mem_append] at hz
    simp only
    rw [lkM_put]
    rcases hz with hz | hz
    ·have hne:z.piece≠x.Piece:=by
      intro e
      obtain ⟨y,hy1,hy2⟩:=List.mem_filterMap.1 hz
      have hyp:y.Piece=z.piece:=by
       unfold lkK at hy2
       split at hy2
       ·cases hy2; rfl
       ·cases hy2
      obtain ⟨j,hj,hjy⟩:=List.getElem_of_mem hy1
      rw [List.length_take] at hj
      rw [List.getElem_take] at hjy
      have:=List.pairwise_iff_getElem.1 (wi_pw hw) j i (by omega) hi (by omega)
      rw [hjy,hyp,e,show w[i]=x from Option.some.inj (by rw [← hx]; exact (List.getElem?_eq_getElem hi).symm)] at this
      exact bs_irr _ this
     rw [if_neg hne]
     exact hI.2 z hz
    ·rw [List.filterMap_cons,hK] at hz
     rw [List.filterMap_nil,List.mem_singleton] at hz
     subst hz
     rw [if_pos rfl]
  ·have hK:lkK l c a g x=none:=by unfold lkK; rw [if_neg hany]
   have h0:(g.filter fun y:TSings=>sameB y.Piece x.Piece).length=0:=by
    rw [List.length_eq_zero_iff,List.filter_eq_nil_iff]
    intro y hy h
    exact hany (List.any_eq_true.2 ⟨y,hy,h⟩)
   rw [h0,decide_eq_false (by omega),ifB_false]
   refine ⟨_,rfl,?_⟩
   rw [htk,List.filterMap_append,List.filterMap_cons,hK,List.filterMap_nil,List.append_nil]
   exact hI) ([],[]) ⟨rfl,fun z hz=>by cases hz⟩
 rw [List.take_length] at k2 k3
 rw [k1,Option.bind_some,fin_brk]
 have hUl:(w.filterMap (lkK l c a g)).length≤12:=Nat.le_trans (List.length_filterMap_le _ _) hwl
 have hbU:=hbd w
 rw [k2,stableL u.1 _ (by rw [List.length_map]; exact hUl) (fun x y=>decide ((lkM u.1 y.Name).getD 0<(lkM u.1 x.Name).getD 0)) (fun x hx y hy=>by
  obtain ⟨z,hz,rfl⟩:=List.mem_map.1 hx
  obtain ⟨z',hz',rfl⟩:=List.mem_map.1 hy
  unfold m_gleeref2_LackingFor_1
  have e1:lkM u.1 (lackP2 z).Name=some z.many:=k3 z hz
  have e2:lkM u.1 (lackP2 z').Name=some z'.many:=k3 z' hz'
  rw [e1,e2,Option.getD_some,Option.getD_some]
  obtain ⟨c',h1,h2⟩:=signLF (hbU z' hz') (hbU z hz)
  rw [h1]
  exact ⟨c',rfl,h2⟩),Option.bind_some]
 have:=fold_ins_map lackP2 ltK (fun x y:TPair=>decide ((lkM u.1 y.Name).getD 0<(lkM u.1 x.Name).getD 0)) (w.filterMap (lkK l c a g)) [] (fun _ _ y hy=>by cases hy) (by
  refine hupw.imp_of_mem fun {y x} hy hx hyx=>?_
  have e1:lkM u.1 (lackP2 x).Name=some x.many:=k3 x hx
  have e2:lkM u.1 (lackP2 y).Name=some y.many:=k3 y hy
  rw [e1,e2,Option.getD_some,Option.getD_some]
  unfold ltK
  rw [decide_eq_false (bs_asym hyx),Bool.and_false,Bool.or_false])
 rw [List.map_nil] at this
 rw [this]
theorem Lacking_P {l:List TSlot} {g:List TSings} {c:List TCame} (H:KOK l g c) {w:List TWish} {eW:Int} (hw:m_rehearse_CheckWishes w=some eW) (hW:eW=0→WiOK w) (hwl:w.length≤12) (a:Int) :
  ∃ v,m_rehearse_Lacking l g c w a=some (v,errF [0,eW,moF a])∧(errF [0,eW,moF a]=0→m_gleeref2_LackingFor l g c w a=some v)∧(errF [0,eW,moF a]≠0→v=[]):=by
 obtain ⟨P,h3,h4⟩:=keeper_ok (g:=g) H.h1 H.h2 H.hc
 rw [errF0 rfl]
 by_cases he:eW=0
 ·subst he
  rw [errF0 rfl]
  unfold moF
  cases ha:isMo a with
  | false =>
   refine ⟨[],?_,fun h=>(by cases h),fun _=>rfl⟩
   unfold m_rehearse_Lacking
   rw [h3,Option.bind_some]
   simp only
   rw [optB_some]
   exact anyOrd_of fun q hq=>by rw [show ((0:Int) != 0)=false from rfl,ifB_false,hw,Option.bind_some,show ((0:Int) != 0)=false from rfl,ifB_false,isMo_prog,ha]; rfl
  | true =>
   have hwo:=hW rfl
   obtain ⟨u,k1,k2,k3⟩:=Lacking_spec H.h1 H.hs H.h2 H.hg H.hc hwo hwl ha
   refine ⟨_,k3,fun _=>?_,fun h=>absurd rfl h⟩
   rw [LackingFor_spec H hwo hwl ha]
   have hpw:=lkU_pw hwo l c a g
   have hn:((w.filterMap (lkK l c a g)).map (·.piece)).Nodup:=by
    rw [List.nodup_iff_pairwise_ne,List.pairwise_map]
    exact hpw.imp fun {x y} h (e:x.piece=y.piece)=>by rw [e] at h; exact bs_irr _ h
   have hn1:(w.filterMap (lkK l c a g)).Nodup:=by
    rw [List.nodup_iff_pairwise_ne]
    exact hpw.imp fun {x y} h (e:x=y)=>by rw [e] at h; exact bs_irr _ h
   have hn2:(u.map lackE).Nodup:=by
    have:((u.map lackE).map (·.piece)).Nodup:=by rw [List.map_map]; exact k1
    rw [List.nodup_iff_pairwise_ne] at this ⊢
    rw [List.pairwise_map] at this
    exact this.imp fun h e=>h (by rw [e])
   have hperm:(u.map lackE).Perm (w.filterMap (lkK l c a g)):=by
    refine (List.perm_ext_iff_of_nodup hn2 hn1).2 fun z=>⟨fun hz=>?_,fun hz=>?_⟩
    ·obtain ⟨y,hy,rfl⟩:=List.mem_map.1 hz
     have h5:=lkM_mem k1 hy
     rw [k2] at h5
     unfold lackAt at h5
     cases hwo2:wishOf w y.1 with
     | none=>rw [hwo2] at h5; cases h5
     | some n =>
      rw [hwo2] at h5
      simp only at h5
      split at h5
      ·rename_i hany
       unfold wishOf at hwo2
       cases hf:w.find? (fun x=>decide (x.Piece=y.1)) with
       | none=>rw [hf] at hwo2; cases hwo2
       | some x =>
        rw [hf] at hwo2
        have hxp:x.Piece=y.1:=by simpa using List.find?_some hf
        cases hwo2
        refine List.mem_filterMap.2 ⟨x,List.mem_of_find?_eq_some hf,?_⟩
        unfold lkK
        rw [hxp,if_pos hany,Option.some.inj h5]; rfl
      ·cases h5
    ·obtain ⟨x,hx,hK⟩:=List.mem_filterMap.1 hz
     unfold lkK at hK
     split at hK
     ·rename_i hany
      cases hK
      refine List.mem_map.2 ⟨(x.Piece,((lackN l c a x.Need x.Piece g:Nat):Int)),lkM_in ?_,rfl⟩
      rw [k2]
      unfold lackAt
      rw [wishOf_self hwo hx]
      simp only
      rw [if_pos hany]
     ·cases hK
   rw [lackL_one hperm hn]
 ·rw [errF1 he]
  refine ⟨[],?_,fun h=>absurd h he,fun _=>rfl⟩
  unfold m_rehearse_Lacking
  rw [h3,Option.bind_some]
  simp only
  rw [optB_some]
  exact anyOrd_of fun q hq=>by rw [show ((0:Int) != 0)=false from rfl,ifB_false,hw,Option.bind_some,bne_iff_ne.2 he,ifB_true]
end Go.G
