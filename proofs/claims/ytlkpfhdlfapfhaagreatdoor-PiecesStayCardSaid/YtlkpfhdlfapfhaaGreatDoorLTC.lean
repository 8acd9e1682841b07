/- LTC: the repeats of a piece and the order in which its bars are sung, in plain Lean. No program in sight. -/
import Derived.Test.YtlkpfhdlfapfhaaGreatDoorLTB
namespace Go.G
open Go Go.J
abbrev Grp:=Nat × Nat × Int
def toRep (g:Grp):Tpiece_repeat:=⟨g.1,g.2.1,g.2.2⟩
def gsB:Option Nat→Nat→List TBar→List Grp
 | _,_,[]=>[]
 | o,i,x::t=>match (bif x.Open then some i else o) with
  | none=>(i,i+1,1)::gsB none (i+1) t
  | some s=>if x.Close>0 then (s,i+1,x.Close)::gsB none (i+1) t else gsB (some s) (i+1) t
def endB:Option Nat→Nat→List TBar→Option Nat
 | o,_,[]=>o
 | o,i,x::t=>match (bif x.Open then some i else o) with
  | none=>endB none (i+1) t
  | some s=>if x.Close>0 then endB none (i+1) t else endB (some s) (i+1) t
def stO:Option Nat→Int
 | none=>-1
 | some s=>s
theorem repLoop:∀ (t:List TBar) (i:Nat) (o:Option Nat) (acc:List Tpiece_repeat),i+t.length≤600→acc.length≤i →
  rangeM m_piece_repeats_l1 i t (stO o,acc)=some (.brk (stO (endB o i t),acc++(gsB o i t).map toRep))
 | [],i,o,acc,_,_=>by simp [gsB,endB]
 | x::t,i,o,acc,hi,ha=>by
  simp only [List.length_cons] at hi
  have hap:∀ z:Tpiece_repeat,appM 24 acc [z]=some (acc++[z]):=fun z=>appM_of (by simp; omega) (by omega)
  have hw:w64 ((i:Int)+1)=((i+1:Nat):Int):=by rw [w64_id (by omega)]; omega
  have h0:(ifB x.Open (some (.inl (i:Int))) (some (.inl (stO o))):Option (Int ⊕ (Flow (Int × (List Tpiece_repeat)) ((List Tpiece_repeat) × Bool))))=some (.inl (stO (bif x.Open then some i else o))):=by cases x.Open <;> rfl
  have hstep:m_piece_repeats_l1 i x (stO o,acc)=some (.nxt (match (bif x.Open then some i else o) with
   | none=>(stO none,acc++[toRep (i,i+1,1)])
   | some s=>if x.Close>0 then (stO none,acc++[toRep (s,i+1,x.Close)]) else (stO (some s),acc))):=by
   unfold m_piece_repeats_l1
   show (ifB x.Open (some (.inl (i:Int))) (some (.inl (stO o))):Option (Int ⊕ (Flow (Int × (List Tpiece_repeat)) ((List Tpiece_repeat) × Bool)))).bind _=_
   rw [h0]
   simp only [Option.bind_some,fin_inl,hap]
   cases (bif x.Open then some i else o) with
   | none=>simp [stO,hw,toRep]
   | some s =>
    have hs:¬ ((s:Int)<0):=by omega
    by_cases hc:x.Close>0
    ·simp [stO,hw,toRep,hc,hs]
    ·simp [stO,hc,hs]
  rw [rangeM_cons,hstep,Option.bind_some,run_nxt]
  unfold gsB endB
  cases (bif x.Open then some i else o) with
  | none =>
   have:=repLoop t (i+1) none (acc++[toRep (i,i+1,1)]) (by omega) (by simp; omega)
   simp only [this,List.map_cons,List.append_assoc,List.singleton_append]
  | some s =>
   by_cases hc:x.Close>0
   ·have:=repLoop t (i+1) none (acc++[toRep (s,i+1,x.Close)]) (by omega) (by simp; omega)
    simp only [hc,if_true,this,List.map_cons,List.append_assoc,List.singleton_append]
   ·have:=repLoop t (i+1) (some s) acc (by omega) (by omega)
    simp only [hc,if_false,this]
theorem gsB_mem:∀ (t:List TBar) (i:Nat) (o:Option Nat),(∀ x∈t,bad x=false)→(∀ s,o=some s→s≤i)→∀ g∈gsB o i t,g.1≤g.2.1∧g.2.1≤i+t.length∧1≤g.2.2∧g.2.2≤9
 | [],i,o,_,_,g,hg=>by simp [gsB] at hg
 | x::t,i,o,hb,ho,g,hg=>by
  unfold gsB at hg
  have hb':∀ y∈t,bad y=false:=fun y hy=>hb y (List.mem_cons_of_mem _ hy)
  have hx:=notbad x (hb x (List.mem_cons_self ..))
  have ho':∀ s,(bif x.Open then some i else o)=some s→s≤i:=by
   intro s hs
   cases hop:x.Open
   ·rw [hop] at hs; exact ho s hs
   ·rw [hop] at hs; cases hs; exact Nat.le_refl _
  revert hg ho'
  cases (bif x.Open then some i else o) with
  | none =>
   intro hg _
   rcases List.mem_cons.1 hg with rfl | hg
   ·simp only [List.length_cons]; omega
   ·have:=gsB_mem t (i+1) none hb' (by simp) g hg
    simp only [List.length_cons]; omega
  | some s =>
   intro hg ho'
   have hs:=ho' s rfl
   by_cases hc:x.Close>0
   ·simp only [hc,if_true] at hg
    rcases List.mem_cons.1 hg with rfl | hg
    ·have:=hx.2.2.2.1 (by omega)
     simp only [List.length_cons]; omega
    ·have:=gsB_mem t (i+1) none hb' (by simp) g hg
     simp only [List.length_cons]; omega
   ·simp only [hc,if_false] at hg
    have:=gsB_mem t (i+1) (some s) hb' (by intro q hq; cases hq; omega) g hg
    simp only [List.length_cons]; omega
theorem gsB_len:∀ (t:List TBar) (i:Nat) (o:Option Nat),(gsB o i t).length≤t.length
 | [],i,o=>by simp [gsB]
 | x::t,i,o=>by
  unfold gsB
  have h1:=gsB_len t (i+1) none
  cases (bif x.Open then some i else o) with
  | none=>simp; omega
  | some s =>
   have h2:=gsB_len t (i+1) (some s)
   by_cases hc:x.Close>0
   ·simp [hc]; omega
   ·simp [hc]; omega
def overB (bs:List TBar) (a i:Nat) (k:Int):Bool:=((bs.drop a).take (i - a)).any fun x=>decide (x.Ending>k)
def badG (bs:List TBar) (g:Grp):Bool:=decide (g.2.2>1)&&overB bs g.1 g.2.1 g.2.2
theorem rep3Loop (r:Tpiece_repeat)  : ∀ (xs:List TBar) (j:Nat),rangeM (m_piece_repeats_l3 r) j xs ()=some (bif (decide (r.times>1)&&xs.any fun x=>decide (x.Ending>r.times)) then .ret (.ret ([],false)) else .brk ())
 | [],j=>by simp
 | x::t,j=>by
  rw [rangeM_cons]
  have h:m_piece_repeats_l3 r j x ()=some (bif (decide (r.times>1)&&decide (x.Ending>r.times)) then .ret (.ret ([],false)) else .nxt ()):=by
   unfold m_piece_repeats_l3
   cases decide (r.times>1) <;> cases decide (x.Ending>r.times) <;> rfl
  rw [h,Option.bind_some,List.any_cons]
  have ih:=rep3Loop r t (j+1)
  revert ih
  generalize (t.any fun x=>decide (x.Ending>r.times))=b
  cases decide (r.times>1) <;> cases decide (x.Ending>r.times) <;> intro ih <;> simp [ih]
theorem rep2Loop (bs:List TBar)  : ∀ (gs:List Grp) (j:Nat),(∀ g∈gs,g.1≤g.2.1∧g.2.1≤bs.length)→rangeM (m_piece_repeats_l2 bs) j (gs.map toRep) ()=some (bif gs.any (badG bs) then .ret ([],false) else .brk ())
 | [],j,_=>by simp
 | g::gs,j,h=>by
  have hg:=h g (List.mem_cons_self ..)
  have ih:=rep2Loop bs gs (j+1) (fun g' hg'=>h g' (List.mem_cons_of_mem _ hg'))
  have hs:m_piece_repeats_l2 bs j (toRep g) ()=some (bif badG bs g then .ret ([],false) else .nxt ()):=by
   unfold m_piece_repeats_l2
   show (sliceI bs (g.1:Int) (g.2.1:Int)).bind _=_
   rw [sliceI_of (a:=g.1) (b:=g.2.1) rfl rfl hg.1 hg.2,Option.bind_some,rep3Loop]
   show (Option.some (bif badG bs g then Flow.ret (Flow.ret ([],false)) else Flow.brk ())).bind _=_
   cases badG bs g <;> rfl
  rw [List.map_cons,rangeM_cons,hs,Option.bind_some,List.any_cons]
  cases hb:badG bs g
  ·simpa using ih
  ·rfl
theorem repeats_spec (bs:List TBar) (hl:bs.length≤600) (hb:∀ x∈bs,bad x=false) :
  m_piece_repeats bs=some (bif (gsB none 0 bs).any (badG bs) then ([],false) else ((gsB none 0 bs).map toRep,(endB none 0 bs).isNone)):=by
 unfold m_piece_repeats
 have h1:=repLoop bs 0 none [] (by omega) (by simp)
 have h2:=rep2Loop bs (gsB none 0 bs) 0 (fun g hg=>by have:=gsB_mem bs 0 none hb (by simp) g hg; omega)
 rw [show ((-1,[]):Int × List Tpiece_repeat)=(stO none,[]) from rfl,h1,Option.bind_some,fin_brk]
 simp only [List.nil_append,h2,Option.bind_some]
 cases (gsB none 0 bs).any (badG bs) with
 | true=>rfl
 | false =>
  simp only [cond_false,fin_brk]
  cases endB none 0 bs with
  | none=>rfl
  | some s =>
   have h0:decide (stO (some s)<0)=false:=decide_eq_false (by show ¬ ((s:Int)<0); omega)
   rw [h0]; rfl
theorem overB_succ {bs:List TBar} {a i:Nat} {x:TBar} {k:Int} (hx:bs[i]? = some x) (ha:a≤i):overB bs a (i+1) k=(overB bs a i k||decide (x.Ending>k)):=by
 unfold overB
 have e:i+1 - a=(i - a)+1:=by omega
 have e2:(bs.drop a)[i - a]? = some x:=by rw [List.getElem?_drop]; rw [show a+(i - a)=i by omega]; exact hx
 rw [e,List.take_add_one,e2,List.any_append]
 simp
theorem wrong_spec (bs:List TBar):∀ (t:List TBar) (i:Nat) (o:Option Nat) (s r:SB),bs.drop i=t→goB s t = .inr r→o.isSome=s.1 →
  (∀ a,o=some a→a≤i∧∀ k,0≤k→decide (s.2.2.1>k)=overB bs a i k) →
  (endB o i t).isSome=r.1∧r.2.2.2=(s.2.2.2||(gsB o i t).any (badG bs))
 | [],i,o,s,r,_,h,ho,_=>by
  cases h
  simp [endB,gsB,ho]
 | x::t,i,o,s,r,hd,h,ho,hm=>by
  obtain ⟨hx,hd'⟩:=drop_cons hd
  obtain ⟨s',h1,h2⟩:=goB_cons h
  obtain ⟨hb,hop,hc⟩:=stB_inr h1
  have hnb:=notbad x hb
  unfold endB gsB
  -- the group that is open at this bar
  have key:∀ a,(bif x.Open then some i else o)=some a→a≤i∧∀ k,0≤k→decide (max (bif x.Open then 0 else s.2.2.1) x.Ending>k)=overB bs a (i+1) k:=by
   intro a ha
   cases hxo:x.Open with
   | true =>
    rw [hxo] at ha
    cases ha
    refine ⟨Nat.le_refl _,fun k hk=>?_⟩
    rw [overB_succ hx (Nat.le_refl _)]
    have:overB bs i i k=false:=by unfold overB; simp
    rw [this,Bool.false_or,cond_true]
    exact decide_eq_decide.2 (by omega)
   | false =>
    rw [hxo] at ha
    obtain ⟨h1,h2⟩:=hm a ha
    refine ⟨h1,fun k hk=>?_⟩
    rw [overB_succ hx h1,← h2 k hk,cond_false,← Bool.decide_or]
    exact decide_eq_decide.2 (by omega)
  have key2:(bif x.Open then some i else o).isSome=(x.Open||s.1):=by
   cases x.Open
   ·simpa using ho
   ·rfl
  revert key key2
  rcases hc with ⟨c1,c2,c3,c4,rfl⟩ | ⟨c1,c2,rfl⟩ | ⟨c1,c2,rfl⟩
  ·cases (bif x.Open then some i else o) with
   | some a=>intro _ k2; rw [c1,c2] at k2; cases k2
   | none =>
    intro _ _
    obtain ⟨e1,e2⟩:=wrong_spec bs t (i+1) none s' r hd' h2 (by simp [c2]) (by simp)
    refine ⟨e1,?_⟩
    simp only [List.any_cons]
    rw [e2]
    have:badG bs (i,i+1,1)=false:=by unfold badG; simp
    rw [this,Bool.false_or]
  ·cases (bif x.Open then some i else o) with
   | none=>intro _ k2; rcases c1 with c1 | c1 <;> simp [c1] at k2
   | some a =>
    intro k1 _
    obtain ⟨q1,q2⟩:=k1 a rfl
    obtain ⟨e1,e2⟩:=wrong_spec bs t (i+1) (some a) _ r hd' h2 rfl (by
     intro b hb'
     cases hb'
     exact ⟨by omega,q2⟩)
    have hc0:¬ (x.Close>0):=by omega
    simp only [hc0,if_false]
    exact ⟨e1,e2⟩
  ·cases (bif x.Open then some i else o) with
   | none=>intro _ k2; rcases c1 with c1 | c1 <;> simp [c1] at k2
   | some a =>
    intro k1 _
    obtain ⟨q1,q2⟩:=k1 a rfl
    have hcl:=hnb.2.2.2.1 c2
    obtain ⟨e1,e2⟩:=wrong_spec bs t (i+1) none _ r hd' h2 rfl (by simp)
    have hc0:x.Close>0:=by omega
    have hc1:x.Close>1:=by omega
    simp only [hc0,if_true,List.any_cons]
    refine ⟨e1,?_⟩
    rw [e2]
    have:badG bs (a,i+1,x.Close)=overB bs a (i+1) x.Close:=by unfold badG; simp [hc1]
    rw [this,← q2 x.Close (by omega),Bool.or_assoc]
end Go.G
