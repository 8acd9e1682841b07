/- LRq: all choices are tried, the least of them is kept. In plain Lean, no program in sight. -/
import Derived.Test.YtadlgemefhfejacGreatDoorLRp
namespace Go.G
open Go Go.J
set_option linter.unusedSimpArgs false
set_option linter.unusedVariables false
def totS:List (Nat→Int)→List Nat→Int
 | f::F,s::S=>f s+totS F S
 | _,_=>0
def addB:Nat→List Nat→List Nat→List Nat
 | _,S,[]=>S
 | k,S,i::c=>addB (k+1) (S.set i ((S[i]?).getD 0+2 ^ k)) c
def Ch (P d:Nat) (c:List Nat):Prop:=c.length=d∧∀ i∈c,i<P
def castL (S:List Nat):List Int:=S.map fun (s:Nat)=>(s:Int)
theorem castL_get {S:List Nat} {i:Nat} {x:Nat} (h:S[i]? = some x):(castL S)[i]? = some (x:Int):=by unfold castL; rw [List.getElem?_map,h]; rfl
theorem castL_set (S:List Nat) (i x:Nat):(castL S).set i (x:Int)=castL (S.set i x):=by unfold castL; rw [List.map_set]
structure Res (P d k:Nat) (F:List (Nat→Int)) (S:List Nat) (now:List Int) (b0:Option (List Int)) (l0:Int) (b1:Option (List Int)) (l1:Int):Prop where
 low:∀ c,Ch P d c→l1≤totS F (addB k S c)
 mono:b0≠none→l1≤l0
 att:(b1=b0∧l1=l0∧b0≠none)∨∃ c,Ch P d c∧b1=some (now++castL c)∧l1=totS F (addB k S c)
theorem leaf_run (N:Nat) (F:List (Nat→Int)) (hF:∀ f∈F,∀ s,0≤f s∧f s≤1000000000000):∀ (G:List (Nat→Int)) (t:List Nat) (i:Nat) (n:Int),F.drop i=G→t.length=G.length→(∀ s∈t,s<2 ^ N)→0≤n→n+1000000000000*(t.length:Int)≤1000000000000000 →
  rangeM (m_rehearse_planner_try_l1 (F.map (rowF N))) i (castL t) n=some (.brk (n+totS G t)):=by
 intro G
 induction G with
 | nil =>
  intro t i n _ ht _ _ _
  have:t=[]:=List.eq_nil_of_length_eq_zero ht
  subst this
  show some (Flow.brk n)=_
  rw [show n+totS [] []=n from Int.add_zero n]
 | cons f G ih =>
  intro t i n hd ht hs hn hb
  cases t with
  | nil=>simp at ht
  | cons s t =>
   rw [List.length_cons,List.length_cons] at ht
   rw [List.length_cons,Int.natCast_add,Int.mul_add] at hb
   have hf:F[i]? = some f:=by
    have:=congrArg (fun l=>l[0]?) hd
    simpa using this
   have hG:F.drop (i+1)=G:=by
    have:=congrArg List.tail hd
    simpa [List.tail_drop] using this
   have hfb:=hF f (List.mem_of_getElem? hf) s
   show rangeM _ i ((s:Int)::castL t) n=_
   rw [rangeM_cons]
   have hst:m_rehearse_planner_try_l1 (F.map (rowF N)) i (s:Int) n=some (.nxt (n+f s)):=by
    unfold m_rehearse_planner_try_l1
    rw [getI_of (x:=rowF N f) rfl (by rw [List.getElem?_map,hf]; rfl),Option.bind_some,getI_of rfl (rowF_get N f (hs s (List.mem_cons_self ..))),Option.bind_some,w64_id (by omega)]
   rw [hst,Option.bind_some,run_nxt,ih t (i+1) _ hG (by omega) (fun x hx=>hs x (List.mem_cons_of_mem _ hx)) (by omega) (by omega)]
   show _=some (Flow.brk (n+(f s+totS G t)))
   congr 2; omega
theorem FUEL_eq:FUEL=100000:=by unfold FUEL; rfl
theorem try_spec (free:List TWindow) (F:List (Nat→Int)) (hN:free.length≤6) (hP:1≤F.length) (hP':F.length≤100) (hF:∀ f∈F,∀ s,0≤f s∧f s≤1000000000000) :
  ∀ (d k fuel:Nat) (now:List Int) (S:List Nat) (best:Option (List Int)) (least:Int),k+d=free.length→now.length=k→d<fuel→S.length=F.length→(∀ s∈S,s<2 ^ k) →
   ∃ b1 l1,m_rehearse_planner_try fuel free (F.map (rowF free.length)) now best least (castL S)=some (now,b1,l1,castL S)∧Res F.length d k F S now best least b1 l1:=by
 intro d
 induction d with
 | zero =>
  intro k fuel now S best least hk hnow hfu hS hb
  obtain ⟨fuel,rfl⟩:∃ f,fuel=f+1:=⟨fuel - 1,by omega⟩
  rw [Nat.add_zero] at hk
  show ∃ b1 l1,m_rehearse_planner_try_b _ _ _ _ _ _ _=_∧_
  unfold m_rehearse_planner_try_b
  rw [show ((now.length:Int)==(free.length:Int))=true by rw [hnow,hk]; exact beq_self_eq_true _,ifB_true]
  rw [leaf_run free.length F hF F S 0 0 rfl hS (by rw [← hk]; exact hb) (Int.le_refl _) (by omega),Option.bind_some,fin_brk,Int.zero_add]
  have happ:appM 8 ([]:List Int) now=some now:=by rw [appM_of (by rw [List.length_nil]; omega) (by omega),List.nil_append]
  have hch:∀ c,Ch F.length 0 c→addB k S c=S:=fun c hc=>by rw [List.eq_nil_of_length_eq_zero hc.1]; rfl
  have hnil:Ch F.length 0 []:=⟨rfl,fun _ h=>by cases h⟩
  cases best with
  | none =>
   refine ⟨some now,totS F S,?_,fun c hc=>by rw [hch c hc]; exact Int.le_refl _,fun h=>absurd rfl h,.inr ⟨[],hnil,by simp [castL],rfl⟩⟩
   simp only [Option.isNone_none,ifB_true,Option.bind_some,fin_inl,happ]
  | some b =>
   simp only [Option.isNone_some,ifB_false,Option.bind_some,fin_inl]
   by_cases hlt:totS F S<least
   ·refine ⟨some now,totS F S,?_,fun c hc=>by rw [hch c hc]; exact Int.le_refl _,fun _=>by omega,.inr ⟨[],hnil,by simp [castL],rfl⟩⟩
    rw [decide_eq_true hlt,ifB_true,happ]; rfl
   ·refine ⟨some b,least,?_,fun c hc=>by rw [hch c hc]; omega,fun _=>Int.le_refl _,.inl ⟨rfl,rfl,by simp⟩⟩
    rw [decide_eq_false hlt,ifB_false]; rfl
 | succ d ih =>
  intro k fuel now S best least hk hnow hfu hS hb
  obtain ⟨fuel,rfl⟩:∃ f,fuel=f+1:=⟨fuel - 1,by omega⟩
  show ∃ b1 l1,m_rehearse_planner_try_b _ _ _ _ _ _ _=_∧_
  unfold m_rehearse_planner_try_b
  rw [show ((now.length:Int)==(free.length:Int))=false by rw [beq_eq_false_iff_ne]; omega,ifB_false]
  let Inv:Nat→Option (List Int)→Int→Prop:=fun i b l =>
   (∀ j c,Ch F.length (d+1) (j::c)→j<i→l≤totS F (addB k S (j::c)))∧(best≠none→l≤least) ∧
   ((b=best∧l=least∧(best≠none∨i=0))∨∃ c,Ch F.length (d+1) c∧b=some (now++castL c)∧l=totS F (addB k S c))
  have key:∀ (t:List Int) (i:Nat) (b:Option (List Int)) (l:Int),i+t.length=F.length→Inv i b l →
    ∃ b1 l1,rangeM (m_rehearse_planner_try_l2 free (F.map (rowF free.length)) now (m_rehearse_planner_try fuel)) i t (l,b,castL S,now)=some (.brk (l1,b1,castL S,now))∧Inv F.length b1 l1:=by
   intro t
   induction t with
   | nil=>intro i b l hi hI; rw [List.length_nil,Nat.add_zero] at hi; subst hi; exact ⟨b,l,rfl,hI⟩
   | cons x t iht =>
    intro i b l hi hI
    rw [List.length_cons] at hi
    have hSi:S[i]? = some (S[i]'(by omega)):=List.getElem?_eq_getElem (by omega)
    have hSb:S[i]'(by omega)<2 ^ k:=hb _ (List.getElem_mem ..)
    obtain ⟨e,he⟩:∃ e,e=S[i]'(by omega):=⟨_,rfl⟩
    rw [← he] at hSi hSb
    have hset:∀ y∈S.set i (e+2 ^ k),y<2 ^ (k+1):=by
     intro y hy
     rw [Nat.pow_succ]
     rcases List.mem_or_eq_of_mem_set hy with h | h
     ·have:=hb y h; omega
     ·omega
    obtain ⟨b1,l1,hr,hres⟩:=ih (k+1) fuel (now++[(i:Int)]) (S.set i (e+2 ^ k)) b l (by omega) (by rw [List.length_append,List.length_singleton,hnow]) (by omega) (by rw [List.length_set]; exact hS) hset
    have hst:m_rehearse_planner_try_l2 free (F.map (rowF free.length)) now (m_rehearse_planner_try fuel) i x (l,b,castL S,now)=some (.nxt (l1,b1,castL S,now)):=by
     unfold m_rehearse_planner_try_l2
     simp only
     have e2:((i:Int)).toNat=i:=by omega
     rw [getI_of rfl (castL_get hSi),Option.bind_some,hnow,shl_one k (by omega),Option.bind_some,Option.bind_some,appM_of (by rw [List.length_singleton,hnow]; omega) (by omega),Option.bind_some,or_bit k (by omega) e hSb,e2,castL_set,hr,Option.bind_some]
     simp only
     rw [sliceI_of (lo:=0) (a:=0) (b:=k) rfl rfl (by omega) (by rw [List.length_append,hnow]; omega),Option.bind_some]
     have hSi':(S.set i (e+2 ^ k))[i]? = some (e+2 ^ k):=by rw [List.getElem?_set_self (by omega)]
     rw [getI_of rfl (castL_get hSi'),Option.bind_some,Option.bind_some,Option.bind_some,andNot_bit k (by omega) e hSb,castL_set,List.set_set]
     congr 2
     rw [show S.set i e=S by rw [he]; exact List.set_getElem_self _]
     rw [List.drop_zero,Nat.sub_zero,← hnow,List.take_left]
    rw [rangeM_cons,hst,Option.bind_some,run_nxt]
    have hadd:∀ c,addB k S (i::c)=addB (k+1) (S.set i (e+2 ^ k)) c:=fun c=>by
     show addB (k+1) (S.set i ((S[i]?).getD 0+2 ^ k)) c=_
     rw [hSi]; rfl
    have hchi:∀ c,Ch F.length d c→Ch F.length (d+1) (i::c):=fun c hc=>⟨by rw [List.length_cons,hc.1],fun j hj=>by
     rcases List.mem_cons.1 hj with rfl | hj
     ·omega
     ·exact hc.2 j hj⟩
    refine iht (i+1) b1 l1 (by omega) ⟨?_,?_,?_⟩
    ·intro j c hc hj
     by_cases hji:j=i
     ·subst hji
      rw [hadd]
      exact hres.low c ⟨by have:=hc.1; rw [List.length_cons] at this; omega,fun y hy=>hc.2 y (List.mem_cons_of_mem _ hy)⟩
     ·have h1:=hI.1 j c hc (by omega)
      have h2:l1≤l:=hres.mono (by
       rcases hI.2.2 with ⟨g1,g2,g3⟩ | ⟨c',_,g2,_⟩
       ·rw [g1]; exact g3.resolve_right (by omega)
       ·rw [g2]; simp)
      omega
    ·intro hne
     have h1:=hI.2.1 hne
     have h2:l1≤l:=hres.mono (by
      rcases hI.2.2 with ⟨g1,g2,g3⟩ | ⟨c',_,g2,_⟩
      ·rw [g1]; exact hne
      ·rw [g2]; simp)
     omega
    ·rcases hres.att with ⟨g1,g2,g3⟩ | ⟨c,hc,g1,g2⟩
     ·rcases hI.2.2 with ⟨k1,k2,k3⟩ | ⟨c',k1,k2,k3⟩
      ·left; exact ⟨g1.trans k1,g2.trans k2,.inl (by rw [← k1]; exact g3)⟩
      ·right; exact ⟨c',k1,g1.trans k2,g2.trans k3⟩
     ·right
      refine ⟨i::c,hchi c hc,?_,by rw [hadd]; exact g2⟩
      rw [g1]
      simp [castL]
  obtain ⟨b1,l1,h1,h2⟩:=key (castL S) 0 best least (by unfold castL; rw [List.length_map]; omega) ⟨fun _ _ _ h=>absurd h (by omega),fun _=>Int.le_refl _,.inl ⟨rfl,rfl,.inr rfl⟩⟩
  rw [h1,Option.bind_some,fin_brk]
  refine ⟨b1,l1,rfl,?_,h2.2.1,?_⟩
  ·intro c hc
   cases c with
   | nil=>have:=hc.1; simp at this
   | cons j c=>exact h2.1 j c hc (hc.2 j (List.mem_cons_self ..))
  ·rcases h2.2.2 with ⟨g1,g2,g3⟩ | g
   ·exact .inl ⟨g1,g2,g3.resolve_right (by omega)⟩
   ·exact .inr g
noncomputable def facL (free:List TWindow) (pieces:List ByteArray) (g:List TSings) (A:List (ByteArray × List TWindow)) (w:List TWish):List (Nat→Int):=pieces.map fun p=>lackP free p g A w
def pickP (pieces:List ByteArray) (c:List Nat):List ByteArray:=c.filterMap fun i=>pieces[i]?
theorem lackP_bd {free:List TWindow} {p:ByteArray} {A:List (ByteArray × List TWindow)} {w:List TWish} (hA:SepM A) (hf:∀ f∈free,isT f=true) (hw:WiOK w) (s:Nat) (g:List TSings):0≤lackP free p g A w s∧lackP free p g A w s≤86400000*(g.length:Int):=by
 unfold lackP
 cases hwo:wishOf w p with
 | none=>simp only; omega
 | some need =>
  simp only
  refine lackG_bd hA hf ?_ s g
  unfold wishOf at hwo
  cases hfd:w.find? (fun x=>decide (x.Piece=p)) with
  | none=>rw [hfd] at hwo; cases hwo
  | some x =>
   rw [hfd] at hwo; cases hwo
   have:=wi_need hw (List.mem_of_find?_eq_some hfd)
   exact ⟨by simp only; omega,this.2⟩
theorem Plan_spec {free:List TWindow} {pieces:List ByteArray} {g:List TSings} {a:List TAway} {w:List TWish} {A:List (ByteArray × List TWindow)} (hs:m_rehearse_CheckSings g=some 0) (hg:g.length≤1000) (ha:AwOK a) (hA:m_rehearse_aways a=some A) (hAs:SepM A) (hw:WiOK w) (hf:FrOK free pieces) (hp:1≤pieces.length) :
  ∃ c l,Ch pieces.length free.length c∧m_rehearse_Plan free pieces g a w=some (pickP pieces c,l,0)∧l=totS (facL free pieces g A w) (addB 0 (List.replicate pieces.length 0) c) ∧
   ∀ c',Ch pieces.length free.length c'→l≤totS (facL free pieces g A w) (addB 0 (List.replicate pieces.length 0) c'):=by
 have hfT:∀ f∈free,isT f=true:=fun f h=>fr_isT hf.ok h
 have hpl:=hf.pl
 have hlen:=hf.len
 unfold m_rehearse_Plan
 rw [hs,Option.bind_some,show ((0:Int) != 0)=false from rfl,ifB_false,Away_ok ha,Option.bind_some,show ((0:Int) != 0)=false from rfl,ifB_false,Wishes_ok hw,Option.bind_some,show ((0:Int) != 0)=false from rfl,ifB_false,Plan_ok hf,Option.bind_some,show ((0:Int) != 0)=false from rfl,ifB_false,hA,Option.bind_some]
 have hl1:∀ (t:List ByteArray) (i:Nat) (u:List (List Int)),u.length+t.length≤100→rangeM (m_rehearse_Plan_l1 free g w A) i t u=some (.brk (u++(t.map fun p=>lackP free p g A w).map (rowF free.length))):=by
  intro t
  induction t with
  | nil=>intro i u _; simp
  | cons p t ih =>
   intro i u hu
   rw [List.length_cons] at hu
   have hst:m_rehearse_Plan_l1 free g w A i p u=some (.nxt (u++[rowF free.length (lackP free p g A w)])):=by
    unfold m_rehearse_Plan_l1
    rw [lacksOf_spec free p g A w hlen hfT hg hAs hw,Option.bind_some,appM_of (by rw [List.length_singleton]; omega) (by omega)]; rfl
   rw [rangeM_cons,hst,Option.bind_some,run_nxt,ih _ _ (by rw [List.length_append,List.length_singleton]; omega)]
   simp
 rw [hl1 pieces 0 [] (by simp; omega),Option.bind_some,fin_brk,List.nil_append]
 have hmk:makeM 8 (0:Int) (pieces.length:Int)=some (castL (List.replicate pieces.length 0)):=by
  unfold makeM castL
  rw [if_pos (by unfold maxLen; omega),List.map_replicate]
  congr 1
 rw [hmk,Option.bind_some]
 have hFl:(facL free pieces g A w).length=pieces.length:=by unfold facL; rw [List.length_map]
 obtain ⟨b1,l1,h1,h2⟩:=try_spec free (facL free pieces g A w) hlen (by omega) (by omega) (fun f hfm s=>by
  obtain ⟨p,_,rfl⟩:=List.mem_map.1 hfm
  have:=lackP_bd (p:=p) (free:=free) hAs hfT hw s g
  omega) free.length 0 FUEL [] (List.replicate pieces.length 0) none 0 (by omega) rfl (by rw [FUEL_eq]; omega) (by rw [List.length_replicate,hFl]) (fun s h=>by rw [List.eq_of_mem_replicate h]; decide)
 rw [hFl] at h2
 unfold facL at h1
 rw [h1,Option.bind_some]
 simp only
 obtain ⟨c,hc,hb,hl⟩:∃ c,Ch pieces.length free.length c∧b1=some (castL c)∧l1=totS (facL free pieces g A w) (addB 0 (List.replicate pieces.length 0) c):=by
  rcases h2.att with ⟨_,_,g3⟩ | ⟨c,g1,g2,g3⟩
  ·exact absurd rfl g3
  ·exact ⟨c,g1,g2,g3⟩
 refine ⟨c,l1,hc,?_,hl,fun c' hc'=>h2.low c' hc'⟩
 subst hb
 have hl2:∀ (t:List Nat) (i:Nat) (u:List ByteArray),(∀ j∈t,j<pieces.length)→u.length+t.length≤100→rangeM (m_rehearse_Plan_l2 pieces) i (castL t) u=some (.brk (u++pickP pieces t)):=by
  intro t
  induction t with
  | nil=>intro i u _ _; simp [castL,pickP]
  | cons j t ih =>
   intro i u hj hu
   rw [List.length_cons] at hu
   have hjl:=hj j (List.mem_cons_self ..)
   have hg:pieces[j]? = some pieces[j]:=List.getElem?_eq_getElem hjl
   show rangeM _ i ((j:Int)::castL t) u=_
   have hst:m_rehearse_Plan_l2 pieces i (j:Int) u=some (.nxt (u++[pieces[j]])):=by
    unfold m_rehearse_Plan_l2
    rw [getI_of rfl hg,Option.bind_some,appM_of (by rw [List.length_singleton]; omega) (by omega)]; rfl
   rw [rangeM_cons,hst,Option.bind_some,run_nxt,ih _ _ (fun y hy=>hj y (List.mem_cons_of_mem _ hy)) (by rw [List.length_append,List.length_singleton]; omega)]
   unfold pickP
   rw [List.filterMap_cons,hg]
   simp
 rw [Option.getD_some,hl2 c 0 [] hc.2 (by rw [hc.1]; simp; omega),Option.bind_some,fin_brk,List.nil_append]
end Go.G
