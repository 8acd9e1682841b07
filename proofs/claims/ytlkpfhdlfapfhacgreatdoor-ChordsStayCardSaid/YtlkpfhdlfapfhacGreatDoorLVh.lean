/- LVh: how far voices move: the tables of both sides. In plain Lean, no program in sight. -/
import Derived.Test.YtlkpfhdlfapfhacGreatDoorLVg
namespace Go.G
open Go Go.J
set_option linter.unusedSimpArgs false
set_option linter.unusedVariables false
theorem two_loop {α σ ρ π : Type} (f:Nat → α → σ → Option (Flow σ ρ)) (g:Nat → α → σ → Option (Flow σ π)) (xs:List α) (I:Nat → σ → Prop)
  (h:∀ i x s,xs[i]? = some x→I i s→∃ s',f i x s=some (.nxt s')∧g i x s=some (.nxt s')∧I (i+1) s') (s : σ) (h0:I 0 s) :
  ∃ s',rangeM f 0 xs s=some (.brk s')∧rangeM g 0 xs s=some (.brk s')∧I xs.length s':=by
 have key:∀ (t pre:List α) (s : σ),xs=pre++t→I pre.length s→∃ s',rangeM f pre.length t s=some (.brk s')∧rangeM g pre.length t s=some (.brk s')∧I (pre.length+t.length) s':=by
  intro t
  induction t with
  | nil=>intro pre s _ hs; exact ⟨s,rfl,rfl,by simpa using hs⟩
  | cons x t ih =>
   intro pre s hd hs
   obtain ⟨s',h1,h1',h2⟩:=h pre.length x s (by rw [hd]; simp) hs
   obtain ⟨s'',h3,h3',h4⟩:=ih (pre++[x]) s' (by rw [hd]; simp) (by rw [List.length_append,List.length_singleton]; exact h2)
   rw [List.length_append,List.length_singleton] at h3 h3' h4
   exact ⟨s'',by rw [rangeM_cons,h1]; simpa using h3,by rw [rangeM_cons,h1']; simpa using h3',by simpa [Nat.add_assoc,Nat.add_comm 1] using h4⟩
 have:=key xs [] s rfl h0
 simpa using this
def mvS:List Int→List Int→Int
 | a::v,b::w=>szI (b - a)+mvS v w
 | _,_=>0
def lpL (leap:Int):List Int→List Int→Bool
 | a::v,b::w=>decide (szI (b - a)>leap)||lpL leap v w
 | _,_=>false
theorem lpL_ex (leap:Int):∀ (v w:List Int),lpL leap v w=true→∃ k,k<w.length∧szI (nt w k - nt v k)>leap
 | [],w,h=>by simp [lpL] at h
 | a::v,[],h=>by simp [lpL] at h
 | a::v,b::w,h=>by
  unfold lpL at h
  rw [Bool.or_eq_true,decide_eq_true_eq] at h
  rcases h with h | h
  ·exact ⟨0,by simp,h⟩
  ·obtain ⟨k,h1,h2⟩:=lpL_ex leap v w h
   exact ⟨k+1,by simpa using h1,h2⟩
theorem szI_le {x:Int} (h:-127≤x∧x≤127):0≤szI x∧szI x≤127:=by unfold szI; omega
theorem mvS_bd:∀ (v w:List Int),(∀ x∈v,0≤x∧x≤127)→(∀ x∈w,0≤x∧x≤127)→0≤mvS v w∧mvS v w≤127*w.length
 | [],w,_,_=>by unfold mvS; omega
 | a::v,[],_,_=>by unfold mvS; simp
 | a::v,b::w,hv,hw=>by
  have h1:=mvS_bd v w (fun x hx=>hv x (List.mem_cons_of_mem _ hx)) (fun x hx=>hw x (List.mem_cons_of_mem _ hx))
  have h2:=hv a (List.mem_cons_self ..)
  have h3:=hw b (List.mem_cons_self ..)
  have:=szI_le (x:=b - a) (by omega)
  unfold mvS
  rw [List.length_cons]
  omega
theorem getPre {α : Type} {pre t:List α} {x : α}:getI (pre++x::t) (pre.length:Int)=some x:=getI_of (n:=pre.length) rfl (by simp)
theorem by_loop (leap:Int):∀ (w v pre:List Int),v.length=w.length→(∀ x∈v,0≤x∧x≤127)→(∀ x∈w,0≤x∧x≤127)→rangeM (m_chord_by_l1 (pre++v) leap) pre.length w ()=some (if lpL leap v w=true then .ret (-1) else .brk ())
 | [],v,pre,hl,_,_=>by
  have:v=[]:=List.eq_nil_of_length_eq_zero hl
  subst this
  rfl
 | b::w,[],pre,hl,_,_=>by simp at hl
 | b::w,a::v,pre,hl,hv,hw=>by
  have h2:=hv a (List.mem_cons_self ..)
  have h3:=hw b (List.mem_cons_self ..)
  have hs:=szI_le (x:=b - a) (by omega)
  have hstep:m_chord_by_l1 (pre++a::v) leap pre.length b ()=if szI (b - a)>leap then some (.ret (-1)) else some (.nxt ()):=by
   unfold m_chord_by_l1
   rw [getPre,Option.bind_some,w64_id (by omega),size_spec (by omega),Option.bind_some,ifB_ite]
  rw [rangeM_cons,hstep]
  unfold lpL
  by_cases h:szI (b - a)>leap
  ·rw [if_pos h,decide_eq_true h]; rfl
  ·rw [if_neg h,decide_eq_false h,Bool.false_or,Option.bind_some,run_nxt]
   have:=by_loop leap w v (pre++[a]) (by simpa using hl) (fun x hx=>hv x (List.mem_cons_of_mem _ hx)) (fun x hx=>hw x (List.mem_cons_of_mem _ hx))
   rw [List.append_assoc,List.length_append,List.length_singleton] at this
   exact this
theorem moves_loop:∀ (w v pre:List Int) (s:Int),v.length=w.length→(∀ x∈v,0≤x∧x≤127)→(∀ x∈w,0≤x∧x≤127)→0≤s→s+127*w.length≤1000000→rangeM (m_chord_moves_l1 (pre++v)) pre.length w s=some (.brk (s+mvS v w))
 | [],v,pre,s,hl,_,_,_,_=>by
  have:v=[]:=List.eq_nil_of_length_eq_zero hl
  subst this
  unfold mvS
  rw [Int.add_zero]; rfl
 | b::w,[],pre,s,hl,_,_,_,_=>by simp at hl
 | b::w,a::v,pre,s,hl,hv,hw,h0,hN=>by
  have h2:=hv a (List.mem_cons_self ..)
  have h3:=hw b (List.mem_cons_self ..)
  have hs:=szI_le (x:=b - a) (by omega)
  rw [List.length_cons] at hN
  have hstep:m_chord_moves_l1 (pre++a::v) pre.length b s=some (.nxt (s+szI (b - a))):=by
   unfold m_chord_moves_l1
   rw [getPre,Option.bind_some,w64_id (by omega),size_spec (by omega),Option.bind_some,w64_id (by omega)]
  rw [rangeM_cons,hstep,Option.bind_some,run_nxt]
  have:=moves_loop w v (pre++[a]) (s+szI (b - a)) (by simpa using hl) (fun x hx=>hv x (List.mem_cons_of_mem _ hx)) (fun x hx=>hw x (List.mem_cons_of_mem _ hx)) (by omega) (by omega)
  rw [List.append_assoc,List.length_append,List.length_singleton] at this
  rw [show mvS (a::v) (b::w)=szI (b - a)+mvS v w from rfl,← Int.add_assoc]
  exact this
def byF (leap:Int) (v w:List Int) (left:Int):Int:=if left = -1 then -1 else if (movedF 0 v w leap).isEmpty=true then mvS v w+left else -1
theorem RowOK.rn {n:Nat} {v:List Int} (h:RowOK n v) (hn:n≤5):RN v:=⟨by rw [h.len]; exact hn,fun x hx=>by have:=h.notes x hx; omega⟩
theorem by_spec {n:Nat} {v w:List Int} (hv:RowOK n v) (hw:RowOK n w) (hn:n≤5) (leap left:Int) (hl:-1≤left∧left≤100000):m_chord_by v w leap left=some (byF leap v w left):=by
 have hvw:v.length=w.length:=by rw [hv.len,hw.len]
 have hwl:w.length≤5:=by rw [hw.len]; exact hn
 have hb:=mvS_bd v w hv.notes hw.notes
 unfold m_chord_by byF
 by_cases h0:left = -1
 ·rw [show (left == -1)=true by simpa using h0,if_pos h0]; rfl
 ·rw [show (left == -1)=false by simpa using h0,ifB_false,if_neg h0]
  have h1:=by_loop leap w v [] hvw hv.notes hw.notes
  rw [List.nil_append,List.length_nil] at h1
  rw [h1]
  by_cases hlp:lpL leap v w=true
  ·rw [if_pos hlp]
   obtain ⟨k,g1,g2⟩:=lpL_ex leap v w hlp
   have hne:(movedF 0 v w leap).isEmpty=false:=by
    rw [← Bool.not_eq_true,List.isEmpty_iff]
    intro e
    unfold movedF at e
    have e3:=(List.append_eq_nil_iff.1 e).2
    have:=List.flatMap_eq_nil_iff.1 e3 k (List.mem_range.2 g1)
    unfold lpF at this
    rw [if_pos g2] at this
    cases this
   rw [hne,if_neg (by simp)]; rfl
  ·rw [if_neg hlp,Option.bind_some,fin_brk,moved_spec v w (hv.rn hn) (hw.rn hn) hvw leap,Option.bind_some]
   cases hm:movedF 0 v w leap with
   | nil =>
    have h2:=moves_loop w v [] 0 hvw hv.notes hw.notes (Int.le_refl _) (by omega)
    rw [List.nil_append,List.length_nil,Int.zero_add] at h2
    unfold m_chord_moves
    rw [decide_eq_false (by simp),ifB_false,h2,Option.bind_some,fin_brk,Option.bind_some,w64_id (by omega)]
    rfl
   | cons a l =>
    rw [decide_eq_true (by rw [List.length_cons]; omega),ifB_true]
    rfl
theorem byF_bd {n:Nat} {v w:List Int} (hv:RowOK n v) (hw:RowOK n w) (hn:n≤5) (leap left:Int) (hl:-1≤left):-1≤byF leap v w left∧byF leap v w left≤max (-1) (635+left):=by
 have hb:=mvS_bd v w hv.notes hw.notes
 have hwl:w.length≤5:=by rw [hw.len]; exact hn
 unfold byF
 split
 ·omega
 ·split <;> omega
def up (leap:Int) (v:List Int) (p:List Int × Int) (k:Nat) (s:Int × Int):Int × Int:=if byF leap v p.1 p.2 ≠ -1∧(s.1 = -1∨byF leap v p.1 p.2<s.1) then (byF leap v p.1 p.2,(k:Int)) else s
def bt (leap:Int) (v:List Int):List (List Int × Int)→Nat→Int × Int→Int × Int
 | [],_,s=>s
 | p::t,k,s=>bt leap v t (k+1) (up leap v p k s)
structure BInv (leap:Int) (v:List Int) (pre:List (List Int × Int)) (s:Int × Int):Prop where
 none:s.1 = -1→∀ p∈pre,byF leap v p.1 p.2 = -1
 some:s.1 ≠ -1→∃ j:Nat,s.2=j∧(∃ p,pre[j]? = some p∧byF leap v p.1 p.2=s.1)∧∀ j' p',j'<j→pre[j']? = some p'→byF leap v p'.1 p'.2≠s.1
 min:s.1 ≠ -1→∀ p∈pre,byF leap v p.1 p.2 = -1∨s.1≤byF leap v p.1 p.2
theorem bt_inv (leap:Int) (v:List Int):∀ (t pre:List (List Int × Int)) (s:Int × Int),BInv leap v pre s→BInv leap v (pre++t) (bt leap v t pre.length s)
 | [],pre,s,h=>by rw [List.append_nil]; exact h
 | p::t,pre,s,h=>by
  have hstep:BInv leap v (pre++[p]) (up leap v p pre.length s):=by
   unfold up
   by_cases hc:byF leap v p.1 p.2 ≠ -1∧(s.1 = -1∨byF leap v p.1 p.2<s.1)
   ·rw [if_pos hc]
    refine ⟨fun e=>absurd e hc.1,fun _=>⟨pre.length,rfl,⟨p,by simp,rfl⟩,fun j' p' hj hp' e=>?_⟩,fun _ q hq=>?_⟩
    ·have e:byF leap v p'.1 p'.2=byF leap v p.1 p.2:=e
     rw [List.getElem?_append_left hj] at hp'
     have hm:=List.mem_of_getElem? hp'
     rcases hc.2 with h1 | h1
     ·have:=h.none h1 p' hm
      exact hc.1 (by rw [← e,this])
     ·by_cases hs:s.1 = -1
      ·have:=h.none hs p' hm
       exact hc.1 (by rw [← e,this])
      ·rcases h.min hs p' hm with h2 | h2
       ·exact hc.1 (by rw [← e,h2])
       ·omega
    ·rcases List.mem_append.1 hq with hq | hq
     ·by_cases hs:s.1 = -1
      ·exact .inl (h.none hs q hq)
      ·rcases h.min hs q hq with h2 | h2
       ·exact .inl h2
       ·right
        show byF leap v p.1 p.2≤_
        rcases hc.2 with h3 | h3
        ·exact absurd h3 hs
        ·omega
     ·rw [List.mem_singleton.1 hq]; exact .inr (Int.le_refl _)
   ·rw [if_neg hc]
    refine ⟨fun e q hq=>?_,fun e=>?_,fun e q hq=>?_⟩
    ·rcases List.mem_append.1 hq with hq | hq
     ·exact h.none e q hq
     ·rw [List.mem_singleton.1 hq]
      exact Decidable.byContradiction fun hne=>hc ⟨hne,.inl e⟩
    ·obtain ⟨j,h1,⟨q,h2,h3⟩,h4⟩:=h.some e
     have hj:=(List.getElem?_eq_some_iff.1 h2).1
     exact ⟨j,h1,⟨q,by rw [List.getElem?_append_left hj]; exact h2,h3⟩,fun j' p' hj' hp'=>h4 j' p' hj' (by rw [List.getElem?_append_left (by omega)] at hp'; exact hp')⟩
    ·rcases List.mem_append.1 hq with hq | hq
     ·exact h.min e q hq
     ·rw [List.mem_singleton.1 hq]
      by_cases hne:byF leap v p.1 p.2 = -1
      ·exact .inl hne
      ·right
       exact Int.not_lt.1 fun hlt=>hc ⟨hne,.inr hlt⟩
  have:=bt_inv leap v t (pre++[p]) _ hstep
  rw [List.length_append,List.length_singleton,List.append_assoc] at this
  exact this
theorem bt_spec (leap:Int) (v:List Int) (l:List (List Int × Int)):BInv leap v l (bt leap v l 0 (-1,-1)):=by
 have:=bt_inv leap v l [] (-1,-1) ⟨fun _ p hp=>(by cases hp),fun h=>absurd rfl h,fun h=>absurd rfl h⟩
 rw [List.nil_append,List.length_nil] at this
 exact this
theorem bt_bd {n:Nat} {v:List Int} (hv:RowOK n v) (hn:n≤5) (leap M:Int):∀ (l:List (List Int × Int)) (k:Nat) (s:Int × Int),(∀ p∈l,RowOK n p.1 ∧ -1≤p.2∧p.2≤M) → -1≤s.1∧s.1≤max (-1) (635+M) → -1≤(bt leap v l k s).1∧(bt leap v l k s).1≤max (-1) (635+M)
 | [],k,s,_,h=>h
 | p::l,k,s,hl,h=>by
  have hp:=hl p (List.mem_cons_self ..)
  have:=byF_bd hv hp.1 hn leap p.2 hp.2.1
  refine bt_bd hv hn leap M l (k+1) _ (fun q hq=>hl q (List.mem_cons_of_mem _ hq)) ?_
  unfold up
  split
  ·show -1≤byF leap v p.1 p.2∧_≤_
   omega
  ·exact h
def tabs (leap:Int):List (List (List Int))→List (List (Int × Int))
 | []=>[]
 | [R0]=>[R0.map fun _=>(0,-1)]
 | R0::R1::Rs=>(R0.map fun v=>bt leap v (R1.zip (((tabs leap (R1::Rs)).headD []).map Prod.fst)) 0 (-1,-1))::tabs leap (R1::Rs)
theorem tabs_head (leap:Int) (R0:List (List Int)) (Rs:List (List (List Int))):∃ t ts,tabs leap (R0::Rs)=t::ts∧t.length=R0.length∧ts=tabs leap Rs:=by
 cases Rs with
 | nil=>exact ⟨_,_,rfl,by simp,rfl⟩
 | cons R1 Rs=>exact ⟨_,_,rfl,by simp,rfl⟩
theorem tabs_bd {n:Nat} (hn:n≤5) (leap:Int):∀ (R:List (List (List Int))),(∀ r∈R,∀ v∈r,RowOK n v)→∀ t∈tabs leap R,∀ p∈t,-1≤p.1∧p.1≤635*(R.length:Int)
 | [],_,t,ht,p,hp=>by cases ht
 | [R0],h,t,ht,p,hp=>by
  rw [show tabs leap [R0]=[R0.map fun _=>(0,-1)] from rfl,List.mem_singleton] at ht
  subst ht
  obtain ⟨v,-,rfl⟩:=List.mem_map.1 hp
  simp
 | R0::R1::Rs,h,t,ht,p,hp=>by
  have ih:=tabs_bd hn leap (R1::Rs) (fun r hr=>h r (List.mem_cons_of_mem _ hr))
  rw [show tabs leap (R0::R1::Rs)=(R0.map fun v=>bt leap v (R1.zip (((tabs leap (R1::Rs)).headD []).map Prod.fst)) 0 (-1,-1))::tabs leap (R1::Rs) from rfl] at ht
  rcases List.mem_cons.1 ht with rfl | ht
  ·obtain ⟨v,hv,rfl⟩:=List.mem_map.1 hp
   have:=bt_bd (h R0 (List.mem_cons_self ..) v hv) hn leap (635*((R1::Rs).length:Int)) (R1.zip (((tabs leap (R1::Rs)).headD []).map Prod.fst)) 0 (-1,-1) (fun q hq=>by
    have h1:=List.of_mem_zip (a:=q.1) (b:=q.2) hq
    refine ⟨h R1 (List.mem_cons_of_mem _ (List.mem_cons_self ..)) q.1 h1.1,?_⟩
    obtain ⟨z,hz,e⟩:=List.mem_map.1 h1.2
    obtain ⟨t',ts,e1,-,-⟩:=tabs_head leap R1 Rs
    rw [e1] at hz
    have:=ih t' (by rw [e1]; exact List.mem_cons_self ..) z hz
    rw [← e]
    exact this) (by simp; omega)
   simp only [List.length_cons] at this ⊢
   omega
  ·have:=ih t ht p hp
   simp only [List.length_cons] at this ⊢
   omega
end Go.G
