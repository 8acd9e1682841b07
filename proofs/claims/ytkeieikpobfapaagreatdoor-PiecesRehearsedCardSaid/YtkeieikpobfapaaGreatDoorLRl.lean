/- LRl: pieces and how many who sing them are not ready. In plain Lean, no program in sight. -/
import Derived.Test.YtkeieikpobfapaaGreatDoorLRy
import Derived.Test.YtkeieikpobfapaaGreatDoorLS2
namespace Go.G
open Go Go.J
set_option linter.unusedSimpArgs false
set_option linter.unusedVariables false
abbrev Lk2:=Trehearse_lacking
def ltK (a b:Lk2):Bool:=decide (b.many<a.many)||(decide (b.many=a.many)&&decide (bytesOf a.piece<bytesOf b.piece))
def RK (a b:Lk2):Prop:=b.many<a.many∨(b.many=a.many∧bytesOf a.piece<bytesOf b.piece)
theorem ltK_iff {a b:Lk2}:ltK a b=true↔RK a b:=by unfold ltK RK; rw [Bool.or_eq_true,Bool.and_eq_true,decide_eq_true_eq,decide_eq_true_eq,decide_eq_true_eq]
theorem cmpK_spec (a b:Lk2):∃ c,m_rehearse_Lacking_1 a b=some c∧decide (c<0)=ltK a b:=by
 unfold m_rehearse_Lacking_1
 rw [cI_s,Option.bind_some,show m_strings_Compare a.piece b.piece=some (Lib.compareBytes (bytesOf a.piece) (bytesOf b.piece)) from rfl,Option.bind_some,Or_two,Option.bind_some]
 refine ⟨_,rfl,?_⟩
 unfold ltK
 by_cases h1:b.many<a.many
 ·rw [decide_eq_true h1]; rfl
 ·by_cases h2:b.many>a.many
  ·rw [decide_eq_false h1,decide_eq_true h2,decide_eq_false (show ¬ b.many=a.many by omega)]; rfl
  ·rw [decide_eq_false h1,decide_eq_false h2,decide_eq_true (show b.many=a.many by omega)]
   simp only [cond_false,bne_self_eq_false,Bool.false_or,Bool.true_and]
   rcases cb_spec (bytesOf a.piece) (bytesOf b.piece) with ⟨h3,h4⟩ | ⟨h3,h4⟩ | ⟨h3,h4⟩
   ·rw [h3,decide_eq_true h4]; rfl
   ·rw [h3,decide_eq_false (show ¬ bytesOf a.piece<bytesOf b.piece from fun g=>by rw [h4] at g; exact bs_irr _ g)]; rfl
   ·rw [h3,decide_eq_false (bs_asym h4)]; rfl
theorem RK_trans (a b c:Lk2) (h1:RK a b) (h2:RK b c):RK a c:=by
 unfold RK at *
 rcases h1 with h1 | ⟨h1,h3⟩ <;> rcases h2 with h2 | ⟨h2,h4⟩
 ·left; omega
 ·left; omega
 ·left; omega
 ·right; exact ⟨by omega,bs_trans h3 h4⟩
theorem RK_tri (a b:Lk2) (h:a.piece≠b.piece):RK a b∨RK b a:=by
 unfold RK
 rcases Int.lt_trichotomy a.many b.many with h1 | h1 | h1
 ·right; left; exact h1
 ·rcases bs_tri (bytesOf a.piece) (bytesOf b.piece) with h2 | h2 | h2
  ·left; right; exact ⟨h1.symm,h2⟩
  ·exact (h (ba_toList_inj.1 (by rw [ByteArray.toList_eq,ByteArray.toList_eq]; exact h2))).elim
  ·right; right; exact ⟨h1,h2⟩
 ·left; left; exact h1
theorem RK_asym {a b:Lk2} (h3:RK a b) (h4:RK b a):False:=by
 unfold RK at h3 h4
 rcases h3 with h3 | ⟨h3,h5⟩
 ·rcases h4 with h4 | ⟨h4,-⟩ <;> omega
 ·rcases h4 with h4 | ⟨-,h6⟩
  ·omega
  ·exact bs_asym h5 h6
theorem lackL_sorted {L:List Lk2} (hn:(L.map (·.piece)).Nodup):(L.foldl (ins ltK) []).Pairwise RK:=by
 refine fold_sorted ltK RK_trans _ [] List.Pairwise.nil (fun _ _ y hy=>by cases hy) ?_
 rw [List.nodup_iff_pairwise_ne,List.pairwise_map] at hn
 exact hn.imp fun {a b} hab=>⟨ltK_iff,(RK_tri _ _ fun e=>hab e.symm)⟩
theorem lackL_perm (l:List Lk2):(l.foldl (ins ltK) []).Perm l:=by
 have:=fold_perm ltK l []
 rwa [List.nil_append] at this
theorem sorted_uniq {l l':List Lk2} (h:l.Pairwise RK) (h':l'.Pairwise RK) (hp:l.Perm l'):l=l' :=
 List.Perm.eq_of_pairwise (fun x y _ _ h3 h4=>(RK_asym h3 h4).elim) h h' hp
theorem lackL_one {l l':List Lk2} (hp:l'.Perm l) (hn:(l.map (·.piece)).Nodup):l'.foldl (ins ltK) []=l.foldl (ins ltK) [] :=
 sorted_uniq (lackL_sorted ((hp.map (·.piece)).nodup_iff.2 hn)) (lackL_sorted hn) ((lackL_perm l').trans (hp.trans (lackL_perm l).symm))
theorem sortK12 (u:List Lk2) (h:u.length≤12):m_slices_SortFunc_rehearse_lacking_rehearse_lacking__rehearse_Lacking_1 u=some (u.foldl (ins ltK) []):=by
 have h1:=isM_ins ltK m_rehearse_Lacking_1 u (by omega) fun x _ y _=>cmpK_spec x y
 have e0:∀ (v:List Lk2) a b,m_slices_insertionSortCmpFunc_rehearse_lacking__rehearse_Lacking_1 v a b=isM m_rehearse_Lacking_1 v a b:=fun _ _ _=>rfl
 unfold m_slices_SortFunc_rehearse_lacking_rehearse_lacking__rehearse_Lacking_1 m_bits_Len m_bits_Len64
 rw [show IntKind.wrap .u64 (u.length:Int)=u.length by rw [IntKind.wrap_u64]; omega,if_pos (by omega)]
 simp only [Option.bind_some]
 unfold m_slices_pdqsortCmpFunc_rehearse_lacking__rehearse_Lacking_1
 have h3:∀ k,m_slices_pdqsortCmpFunc_rehearse_lacking__rehearse_Lacking_1_l1 u 0 (u.length:Int) k ()=some (.ret (u.foldl (ins ltK) [])):=fun k=>by
  unfold m_slices_pdqsortCmpFunc_rehearse_lacking__rehearse_Lacking_1_l1
  rw [w64_id (by omega),decide_eq_true (by omega),ifB_true,e0,h1]; rfl
 rw [loopM_step (h3 _)]; rfl
def lackN (l:List TSlot) (c:List TCame) (a:Int) (n:Int) (p:ByteArray) (g:List TSings):Nat:=g.countP fun x=>sameB x.Piece p&&decide (rehN l c x a<n)
def lackAt (l:List TSlot) (c:List TCame) (w:List TWish) (a:Int) (g:List TSings) (p:ByteArray):Option Int :=
 match wishOf w p with | some n=>if (g.any fun x=>sameB x.Piece p)=true then some ((lackN l c a n p g:Nat):Int) else none | none=>none
def itoaB (n:Int):ByteArray:=(m_strconv_Itoa n).getD ByteArray.empty
def lackP2 (x:Lk2):TPair:=⟨x.piece,itoaB x.many⟩
def lackE (p:ByteArray × Int):Lk2:=⟨p.1,p.2⟩
theorem itoa_tot {n:Int} (h:-9223372036854775808≤n∧n≤9223372036854775807):m_strconv_Itoa n=some (itoaB n):=by
 unfold itoaB m_strconv_Itoa
 rw [if_pos h]; rfl
theorem wish_mem {w:List TWish} {p:ByteArray} {n:Int} (h:wishOf w p=some n):p∈w.map (·.Piece):=by
 unfold wishOf at h
 cases hf:w.find? (fun x=>decide (x.Piece=p)) with
 | none=>rw [hf] at h; cases h
 | some x =>
  have h2:x.Piece=p:=by simpa using List.find?_some hf
  exact List.mem_map.2 ⟨x,List.mem_of_find?_eq_some hf,h2⟩
theorem Lacking_spec {l:List TSlot} {g:List TSings} {c:List TCame} {w:List TWish} {a:Int} (h1:m_rehearse_CheckSlots l=some 0) (hs:SlR l) (h2:m_rehearse_CheckSings g=some 0) (hgl:g.length≤1000) (hc:CmOK c) (hw:WiOK w) (hwl:w.length≤12) (ha:isMo a=true) :
  ∃ u:List (ByteArray × Int),(u.map Prod.fst).Nodup∧(∀ p,lkM u p=lackAt l c w a g p)∧m_rehearse_Lacking l g c w a=some (((u.map lackE).foldl (ins ltK) []).map lackP2,0):=by
 obtain ⟨P,h3,h4⟩:=keeper_ok (g:=g) h1 h2 hc
 unfold m_rehearse_Lacking
 rw [h3,Option.bind_some]
 simp only
 rw [optB_some']
 -- the counts,whichever map of presences
 have key:∀ q:Rows,Pres c q→∃ u:List (ByteArray × Int),rangeM (m_rehearse_Lacking_l4 l g w a q) 0 g []=some (.brk u)∧(u.map Prod.fst).Nodup∧∀ p,lkM u p=lackAt l c w a g p:=by
  intro q hq
  obtain ⟨u,k1,k2,k3⟩:=rangeM_invx (m_rehearse_Lacking_l4 l g w a q) g (fun n u=>(u.map Prod.fst).Nodup∧∀ p,lkM u p=lackAt l c w a (g.take n) p) (by
   intro i x u hx hI
   have hi:=(List.getElem?_eq_some_iff.1 hx).1
   have htk:g.take (i+1)=g.take i++[x]:=by rw [List.take_add_one,hx]; rfl
   unfold m_rehearse_Lacking_l4
   rw [needOf_spec _ _ hw,Option.bind_some]
   cases hwo:wishOf w x.Piece with
   | none =>
    refine ⟨u,rfl,hI.1,fun p=>?_⟩
    rw [hI.2,htk]
    unfold lackAt lackN
    by_cases e:p=x.Piece
    ·subst e; rw [hwo]
    ·have hsp:sameB x.Piece p=false:=Bool.eq_false_iff.2 fun g=>e (sameB_iff.1 g).symm
     cases wishOf w p with
     | none=>rfl
     | some n =>
      simp only
      rw [List.any_append,List.countP_append]
      simp [hsp]
   | some n =>
    simp only [ifB_true]
    rw [rehearsed_spec hs hq,Option.bind_some,flag_s,Option.bind_some]
    have hold:(lkM u x.Piece).getD 0=((lackN l c a n x.Piece (g.take i):Nat):Int):=by
     rw [hI.2]
     unfold lackAt
     rw [hwo]
     simp only
     by_cases hany:((g.take i).any fun y=>sameB y.Piece x.Piece)=true
     ·rw [if_pos hany]; rfl
     ·rw [if_neg hany]
      have:lackN l c a n x.Piece (g.take i)=0:=List.countP_eq_zero.2 fun z hz hc=>by
       rw [Bool.and_eq_true] at hc
       exact hany (List.any_eq_true.2 ⟨z,hz,hc.1⟩)
      rw [this]; rfl
    have hcl:=List.countP_le_length (p:=fun y:TSings=>sameB y.Piece x.Piece&&decide (rehN l c y a<n)) (l:=g.take i)
    have hcl':lackN l c a n x.Piece (g.take i)≤1000:=by
     unfold lackN
     rw [List.length_take] at hcl
     omega
    have hfb:0≤flagI (decide (rehN l c x a<n))∧flagI (decide (rehN l c x a<n))≤1:=by unfold flagI; cases decide (rehN l c x a<n) <;> simp
    rw [hold,w64_id (by omega)]
    refine ⟨_,rfl,keys_put _ _ _ hI.1,fun p=>?_⟩
    rw [lkM_put,htk]
    by_cases e:p=x.Piece
    ·subst e
     rw [if_pos rfl]
     unfold lackAt lackN
     rw [hwo]
     simp only
     rw [List.any_append,if_pos (by simp [sameB_iff]),List.countP_append,Int.natCast_add]
     congr 2
     rw [List.countP_cons,sameB_iff.2 rfl]
     unfold flagI
     cases decide (rehN l c x a<n) <;> rfl
    ·rw [if_neg e,hI.2]
     have hsp:sameB x.Piece p=false:=Bool.eq_false_iff.2 fun g=>e (sameB_iff.1 g).symm
     unfold lackAt lackN
     cases wishOf w p with
     | none=>rfl
     | some n =>
      simp only
      rw [List.any_append,List.countP_append]
      simp [hsp]) [] ⟨List.nodup_nil,fun p=>by
       unfold lackAt
       cases wishOf w p <;> rfl⟩
  rw [List.take_length] at k3
  exact ⟨u,k1,k2,k3⟩
 obtain ⟨u,k1,k2,k3⟩:=key (canonM P) (h4.perm (List.Perm.refl _))
 refine ⟨u,k2,k3,anyOrd_of fun q hq=>?_⟩
 obtain ⟨u',k1',k2',k3'⟩:=key q (h4.perm hq)
 have hpu:u'.Perm u:=perm_lk k2' k2 fun s=>by rw [k3',k3]
 have hlen:u'.length≤12:=by
  have hsub:(u'.map Prod.fst) ⊆ w.map (·.Piece):=fun p hp=>by
   obtain ⟨z,hz,rfl⟩:=List.mem_map.1 hp
   have:=lkM_mem k2' hz
   rw [k3'] at this
   unfold lackAt at this
   cases hwo:wishOf w z.1 with
   | none=>rw [hwo] at this; cases this
   | some n=>exact wish_mem hwo
  have:=List.Nodup.length_le_of_subset k2' hsub
  rw [List.length_map,List.length_map] at this
  omega
 rw [show ((0:Int) != 0)=false from rfl,ifB_false,Wishes_ok hw,Option.bind_some,show ((0:Int) != 0)=false from rfl,ifB_false,isMo_prog,ha,Option.bind_some,Bool.not_true,ifB_false,k1',Option.bind_some,fin_brk]
 refine anyOrd_of fun L hL=>?_
 have hLl:=hL.length_eq
 have e5:∀ (t:List (ByteArray × Int)) (i:Nat) (v:List Lk2),v.length+t.length≤100→rangeM m_rehearse_Lacking_l5 i t v=some (.brk (v++t.map lackE)):=by
  intro t
  induction t with
  | nil=>intro i v _; simp
  | cons x t ih =>
   intro i v hv
   rw [List.length_cons] at hv
   have hst:m_rehearse_Lacking_l5 i x v=some (.nxt (v++[lackE x])):=by
    unfold m_rehearse_Lacking_l5
    rw [appM_of (by rw [List.length_singleton]; omega) (by omega)]; rfl
   rw [rangeM_cons,hst,Option.bind_some,run_nxt,ih _ _ (by rw [List.length_append,List.length_singleton]; omega)]
   simp
 rw [e5 L 0 [] (by simp; omega),Option.bind_some,fin_brk,List.nil_append,sortK12 _ (by rw [List.length_map]; omega),Option.bind_some]
 have hkn:((u.map lackE).map (·.piece)).Nodup:=by rw [List.map_map]; exact k2
 rw [lackL_one ((hL.trans hpu).map lackE) hkn]
 have hbnd:∀ x∈(u.map lackE).foldl (ins ltK) [],0≤x.many∧x.many≤1000:=by
  intro x hx
  obtain ⟨z,hz,rfl⟩:=List.mem_map.1 ((lackL_perm _).subset hx)
  have:=lkM_mem k2 hz
  rw [k3] at this
  unfold lackAt at this
  cases hwo:wishOf w z.1 with
  | none=>rw [hwo] at this; cases this
  | some n =>
   rw [hwo] at this
   simp only at this
   split at this
   ·have e:=Option.some.inj this
    have hcl:=List.countP_le_length (p:=fun y:TSings=>sameB y.Piece z.1&&decide (rehN l c y a<n)) (l:=g)
    show 0≤z.2∧z.2≤1000
    unfold lackN at e
    omega
   ·cases this
 have e6:∀ (t:List Lk2) (i:Nat) (v:List TPair),(∀ x∈t,0≤x.many∧x.many≤1000)→v.length+t.length≤100→rangeM m_rehearse_Lacking_l6 i t v=some (.brk (v++t.map lackP2)):=by
  intro t
  induction t with
  | nil=>intro i v _ _; simp
  | cons x t ih =>
   intro i v hx hv
   rw [List.length_cons] at hv
   have hst:m_rehearse_Lacking_l6 i x v=some (.nxt (v++[lackP2 x])):=by
    unfold m_rehearse_Lacking_l6
    rw [itoa_tot (by have:=hx x (List.mem_cons_self ..); omega),Option.bind_some,appM_of (by rw [List.length_singleton]; omega) (by omega)]; rfl
   rw [rangeM_cons,hst,Option.bind_some,run_nxt,ih _ _ (fun y hy=>hx y (List.mem_cons_of_mem _ hy)) (by rw [List.length_append,List.length_singleton]; omega)]
   simp
 have hl9:=(lackL_perm (u.map lackE)).length_eq
 rw [List.length_map] at hl9
 have hpul:=hpu.length_eq
 rw [e6 _ 0 [] hbnd (by simp; omega),Option.bind_some,fin_brk,List.nil_append]
end Go.G
