/- LS1: the library's loops over slices, in plain Lean, once for all elements: looking, deleting, insertion sort. No program in sight. -/
import Derived.Test.YtlkpfhdlfapfhacGreatDoorL0
namespace Go.G
open Go Go.J
theorem rangeM_filterMap {α β ρ : Type} (step:Nat → α → List β → Option (Flow (List β) ρ)) (f : α → Option β) (xs:List α)
  (h:∀ i x (s:List β),xs[i]? = some x→s.length≤i→step i x s=some (.nxt (s++(f x).toList))):rangeM step 0 xs []=some (.brk (xs.filterMap f)):=by
 obtain ⟨s,h1,h2,-⟩:=rangeM_invx step xs (fun i s=>s=(xs.take i).filterMap f∧s.length≤i) (by
  rintro i x s hx ⟨rfl,hl⟩
  refine ⟨_,h i x _ hx hl,?_,?_⟩
  ·rw [List.take_add_one,hx,List.filterMap_append]
   cases hf:f x <;> simp [hf]
  ·rw [List.length_append]
   cases f x <;> simp <;> omega) [] ⟨rfl,by simp⟩
 rw [h1,h2,List.take_length]
def ixL1 {α : Type} (p : α → Option Bool) (i1:Nat) (x2 : α) (_:Unit):Option (Flow Unit Int):=(p x2).bind fun y8=>ifB y8 (some (.ret (i1:Int))) (some (.nxt ()))
def ixM {α : Type} (p : α → Option Bool) (a0:List α):Option Int:=(rangeM (ixL1 p) 0 a0 ()).bind fun f7=>Flow.fin f7 fun _=>some (-1)
theorem rangeM_stop {α σ ρ : Type} (step:Nat → α → σ → Option (Flow σ ρ)) (xs:List α) (I:Nat → σ → Prop) (Q:Flow σ ρ → Prop)
  (h:∀ i x s,xs[i]? = some x→I i s→∃ f,step i x s=some f∧(∀ s',f = .nxt s'→I (i+1) s')∧(∀ s',f = .brk s'→Q (.brk s'))∧∀ v,f = .ret v→Q (.ret v))
  (he:∀ s,I xs.length s→Q (.brk s)) (s : σ) (h0:I 0 s):∃ f,rangeM step 0 xs s=some f∧Q f:=by
 have key:∀ (t:List α) (i:Nat) (s : σ),xs.drop i=t→i+t.length=xs.length→I i s→∃ f,rangeM step i t s=some f∧Q f:=by
  intro t
  induction t with
  | nil=>intro i s _ hl hs; exact ⟨.brk s,rfl,he s (by simpa using hl ▸ hs)⟩
  | cons x t ih =>
   intro i s hd hl hs
   have hx:xs[i]? = some x:=by
    have:(xs.drop i)[0]? = some x:=by rw [hd]; rfl
    simpa using this
   obtain ⟨f,h1,h2,h3,h4⟩:=h i x s hx hs
   have hd':xs.drop (i+1)=t:=by rw [← List.drop_drop,hd]; rfl
   rw [rangeM_cons,h1]
   cases f with
   | nxt s'=>exact ih (i+1) s' hd' (by simp at hl; omega) (h2 s' rfl)
   | brk s'=>exact ⟨_,rfl,h3 s' rfl⟩
   | ret v=>exact ⟨_,rfl,h4 v rfl⟩
 exact key xs 0 s rfl (by simp) h0
theorem ixM_spec {α : Type} (p : α → Option Bool) (d : α → Bool) (l:List α) (hp:∀ x∈l,p x=some (d x)) :
  ∃ n,ixM p l=some n∧((n = -1∧∀ x∈l,d x=false)∨∃ k:Nat,n=k∧k<l.length∧(∀ x∈l.take k,d x=false)∧∃ x,l[k]? = some x∧d x=true):=by
 unfold ixM
 obtain ⟨f,h1,h2⟩:=rangeM_stop (ixL1 p) l (fun i _=>∀ x∈l.take i,d x=false)
  (fun f=>match f with | .nxt _=>False | .brk _=>∀ x∈l,d x=false | .ret n=>∃ k:Nat,n=k∧k<l.length∧(∀ x∈l.take k,d x=false)∧∃ x,l[k]? = some x∧d x=true) (by
  intro i x s hx hI
  have hi:=(List.getElem?_eq_some_iff.1 hx).1
  unfold ixL1
  rw [hp x (List.mem_of_getElem? hx),Option.bind_some]
  cases hd:d x with
  | true=>exact ⟨.ret i,rfl,by simp,by simp,fun v hv=>by cases hv; exact ⟨i,rfl,hi,hI,x,hx,hd⟩⟩
  | false =>
   refine ⟨.nxt (),rfl,fun _ _ y hy=>?_,by simp,by simp⟩
   rw [List.take_add_one,hx] at hy
   rcases List.mem_append.1 hy with h | h
   ·exact hI y h
   ·simp at h; subst h; exact hd) (fun s hI x hx=>hI x (by rw [List.take_length]; exact hx)) () (by simp)
 rw [h1,Option.bind_some]
 cases f with
 | nxt s=>exact h2.elim
 | brk s=>exact ⟨-1,rfl,.inl ⟨rfl,h2⟩⟩
 | ret n=>exact ⟨n,rfl,.inr h2⟩
noncomputable def dfL1 {α ρ : Type} (p : α → Option Bool) (u2:Int × Int × List α):Option (Flow (Int × Int × List α) ρ) :=
 ifB (decide (u2.2.1<(u2.2.2.length:Int))) ((getI u2.2.2 u2.2.1).bind fun e6=>(p e6).bind fun y8=>ifB (!y8) ((getI u2.2.2 u2.1).bind fun _=>some (.nxt (w64 (u2.1+1),w64 (u2.2.1+1),(u2.2.2.set u2.1.toNat e6)))) (some (.nxt (u2.1,w64 (u2.2.1+1),u2.2.2)))) (some (.brk (u2.1,u2.2.1,u2.2.2)))
noncomputable def dfM {α : Type} (z : α) (p : α → Option Bool) (a0:List α):Option (List α) :=
 (ixM p a0).bind fun y1=>ifB (y1==(-1)) (some a0) ((loopM (dfL1 p) (y1,w64 (y1+1),a0)).bind fun f5=>Flow.fin f5 fun u2=>(sliceI u2.2.2 u2.1 (u2.2.2.length:Int)).bind fun _=>(sliceI (clearM z u2.2.2 u2.1) 0 u2.1).bind fun q14=>some q14)
theorem dfM_spec {α : Type} (z : α) (p : α → Option Bool) (d : α → Bool) (l:List α) (hl:l.length≤1000000000) (hp:∀ x∈l,p x=some (d x)):dfM z p l=some (l.filter fun x=>!d x):=by
 unfold dfM
 obtain ⟨n,h1,h2⟩:=ixM_spec p d l hp
 rw [h1,Option.bind_some]
 rcases h2 with ⟨rfl,h3⟩ | ⟨k,rfl,hk,h3,x,hx,hd⟩
 ·have:l.filter (fun x=>!d x)=l:=List.filter_eq_self.2 fun x hx=>by simp [h3 x hx]
  rw [this]; rfl
 ·have hn:((k:Int) == -1)=false:=by simp
  rw [hn,ifB_false,w64_id (by omega)]
  obtain ⟨f,h4,i,m,rfl,h5,h6,h7⟩:=loopM_post (ρ:=List α) (dfL1 p) (fun s=>∃ (i j:Nat) (m:List α),s=((i:Int),(j:Int),m)∧i<j∧j≤l.length∧m.length=l.length∧m.take i=(l.take j).filter (fun x=>!d x)∧m.drop j=l.drop j)
   (fun s=>(l.length - s.2.1.toNat)) (fun f=>∃ (i:Nat) (m:List α),f = .brk ((i:Int),(l.length:Int),m)∧i≤l.length∧m.length=l.length∧m.take i=l.filter (fun x=>!d x)) (by
   rintro s ⟨i,j,m,rfl,hij,hj,hm,ht,hdr⟩
   unfold dfL1
   simp only
   by_cases hlt:j<l.length
   ·left
    have hmj:m[j]? = some l[j]:=by
     have:(m.drop j)[0]? = (l.drop j)[0]?:=by rw [hdr]
     simpa [List.getElem?_eq_getElem hlt] using this
    have hmi:m[i]? = some m[i]:=List.getElem?_eq_getElem (by omega)
    rw [decide_eq_true (by omega),ifB_true,getI_nat,hmj,Option.bind_some,hp _ (List.getElem_mem hlt),Option.bind_some,w64_id (n:=(j:Int)+1) (by omega)]
    cases hdj:d l[j] with
    | true =>
     refine ⟨_,rfl,⟨i,j+1,m,by simp,by omega,by omega,hm,?_,?_⟩,by simp only; omega⟩
     ·rw [ht,List.take_add_one,List.getElem?_eq_getElem hlt,List.filter_append]
      simp [hdj]
     ·have:=congrArg (List.drop 1) hdr
      simpa [List.drop_drop] using this
    | false =>
     rw [Bool.not_false,ifB_true,getI_nat,hmi,Option.bind_some,w64_id (n:=(i:Int)+1) (by omega)]
     refine ⟨_,rfl,⟨i+1,j+1,m.set i l[j],by simp,by omega,by omega,by simpa using hm,?_,?_⟩,by simp only; omega⟩
     ·rw [List.take_add_one,List.take_set_of_le (Nat.le_refl i),ht,List.take_add_one,List.getElem?_eq_getElem hlt,List.filter_append]
      simp [hdj,show i<m.length by omega]
     ·rw [List.drop_set_of_lt (by omega)]
      have:=congrArg (List.drop 1) hdr
      simpa [List.drop_drop] using this
   ·right; left
    have hje:j=l.length:=by omega
    subst hje
    rw [decide_eq_false (by omega),ifB_false]
    exact ⟨_,rfl,i,m,rfl,by omega,hm,by rw [ht,List.take_length]⟩) ((k:Int),(k:Int)+1,l) ⟨k,k+1,l,by simp,by omega,by omega,rfl,by
     rw [List.take_add_one,hx,List.filter_append,List.filter_eq_self.2 fun y hy=>by simp [h3 y hy]]
     simp [hd],rfl⟩
  rw [h4,Option.bind_some,fin_brk]
  simp only
  rw [sliceI_of (lo:=(i:Int)) (hi:=(m.length:Int)) rfl rfl (by omega) (Nat.le_refl _),Option.bind_some]
  have hcl:(clearM z m (i:Int)).length=m.length:=by simp [clearM]; omega
  rw [sliceI_of (lo:=0) (hi:=(i:Int)) (a:=0) rfl rfl (Nat.zero_le _) (by omega),Option.bind_some]
  congr 1
  rw [← h7]
  simp [clearM,show i≤m.length by omega]
noncomputable def isL2 {α ρ : Type} (cmp : α → α → Option Int) (a1:Int) (u5:Int × List α):Option (Flow (Int × List α) ρ) :=
 ifB (decide (u5.1>a1)) ((getI u5.2 u5.1).bind fun e9=>(getI u5.2 (w64 (u5.1 - 1))).bind fun e10=>(cmp e9 e10).bind fun y11=>ifB (decide (y11<0)) ((getI u5.2 (w64 (u5.1 - 1))).bind fun e12=>(getI u5.2 u5.1).bind fun e13=>(getI u5.2 u5.1).bind fun _=>(getI (u5.2.set u5.1.toNat e12) (w64 (u5.1 - 1))).bind fun _=>some (.nxt (w64 (u5.1 - 1),((u5.2.set u5.1.toNat e12).set ((w64 (u5.1 - 1)).toNat) e13)))) (some (.brk (u5.1,u5.2)))) (some (.brk (u5.1,u5.2)))
noncomputable def isL1 {α ρ : Type} (cmp : α → α → Option Int) (a1 a2:Int) (u1:Int × List α):Option (Flow (Int × List α) ρ) :=
 ifB (decide (u1.1<a2)) ((loopM (isL2 (ρ:=Flow (Int × List α) ρ) cmp a1) (u1.1,u1.2)).bind fun f8=>Flow.fin f8 fun u5=>some (.nxt (w64 (u1.1+1),u5.2))) (some (.brk (u1.1,u1.2)))
noncomputable def isM {α : Type} (cmp : α → α → Option Int) (a0:List α) (a1 a2:Int):Option (List α) :=
 (loopM (isL1 (ρ:=List α) cmp a1 a2) (w64 (a1+1),a0)).bind fun f4=>Flow.fin f4 fun u1=>some u1.2
theorem isL2_total {α ρ : Type} (cmp : α → α → Option Int) (l:List α) (hl:l.length≤1000000) (hc:∀ x∈l,∀ y∈l,∃ c,cmp x y=some c) (j:Nat) (hj:j<l.length∨j=0) :
  ∃ (m:List α) (k:Nat),loopM (isL2 (ρ:=ρ) cmp 0) ((j:Int),l)=some (.brk ((k:Int),m))∧List.Perm m l:=by
 obtain ⟨f,h1,m,k,rfl,h2⟩:=loopM_post (ρ:=ρ) (isL2 cmp 0) (fun s=>∃ (i:Nat) (m:List α),s=((i:Int),m)∧(i<l.length∨i=0)∧List.Perm m l) (fun s=>s.1.toNat) (fun f=>∃ (m:List α) (k:Nat),f = .brk ((k:Int),m)∧List.Perm m l) (by
  rintro s ⟨i,m,rfl,hi,hp⟩
  have hlen:=hp.length_eq
  unfold isL2
  simp only
  by_cases h0:(i:Int)>0
  ·have hil:i<m.length:=by omega
   have e1:m[i]? = some m[i]:=List.getElem?_eq_getElem hil
   have e2:m[i - 1]? = some m[i - 1]:=List.getElem?_eq_getElem (by omega)
   have e3:getI m ((i:Int) - 1)=some m[i - 1]:=getI_of (n:=i - 1) (by omega) e2
   obtain ⟨c,hcc⟩:=hc m[i] (hp.subset (List.getElem_mem _)) m[i - 1] (hp.subset (List.getElem_mem _))
   rw [decide_eq_true h0,ifB_true,w64_id (by omega),getI_nat,e1,e3,Option.bind_some,Option.bind_some,hcc,Option.bind_some]
   by_cases hcn:c<0
   ·left
    have e4:getI (m.set i m[i - 1]) ((i:Int) - 1)=some m[i - 1]:=getI_of (n:=i - 1) (by omega) (by rw [List.getElem?_set_ne (by omega)]; exact e2)
    rw [decide_eq_true hcn,ifB_true]
    simp only [Option.bind_some]
    rw [show ((i:Int)).toNat=i by omega,e4,Option.bind_some]
    refine ⟨_,rfl,⟨i - 1,(m.set i m[i - 1]).set (i - 1) m[i],?_,?_,?_⟩,by simp only; omega⟩
    ·rw [show ((i:Int) - 1).toNat=i - 1 by omega,show (i:Int) - 1=((i - 1:Nat):Int) by omega]
    ·omega
    ·exact (List.set_set_perm (by omega) (by omega)).trans hp
   ·right; left
    rw [decide_eq_false hcn,ifB_false]
    exact ⟨_,rfl,m,i,rfl,hp⟩
  ·right; left
   rw [decide_eq_false h0,ifB_false]
   exact ⟨_,rfl,m,i,rfl,hp⟩) ((j:Int),l) ⟨j,l,rfl,hj,List.Perm.refl _⟩
 exact ⟨m,k,h1,h2⟩
theorem isM_total {α : Type} (cmp : α → α → Option Int) (l:List α) (hl:l.length≤1000000) (hc:∀ x∈l,∀ y∈l,∃ c,cmp x y=some c):∃ m,isM cmp l 0 (l.length:Int)=some m∧List.Perm m l:=by
 unfold isM
 obtain ⟨f,h1,m,k,rfl,h2⟩:=loopM_post (ρ:=List α) (isL1 cmp 0 (l.length:Int)) (fun s=>∃ (i:Nat) (m:List α),s=((i:Int),m)∧i≤l.length+1∧List.Perm m l) (fun s=>l.length+1 - s.1.toNat) (fun f=>∃ (m:List α) (k:Int),f = .brk (k,m)∧List.Perm m l) (by
  rintro s ⟨i,m,rfl,hi,hp⟩
  have hlen:=hp.length_eq
  unfold isL1
  simp only
  by_cases h0:(i:Int)<l.length
  ·left
   obtain ⟨m',k,h3,h4⟩:=isL2_total (ρ:=Flow (Int × List α) (List α)) cmp m (by omega) (fun x hx y hy=>hc x (hp.subset hx) y (hp.subset hy)) i (.inl (by omega))
   rw [decide_eq_true h0,ifB_true,h3,Option.bind_some,fin_brk,w64_id (by omega)]
   exact ⟨_,rfl,⟨i+1,m',by simp,by omega,h4.trans hp⟩,by simp only; omega⟩
  ·right; left
   rw [decide_eq_false h0,ifB_false]
   exact ⟨_,rfl,m,(i:Int),rfl,hp⟩) (w64 (0+1),l) ⟨1,l,by rw [w64_id (by omega)]; rfl,by omega,List.Perm.refl _⟩
 rw [h1,Option.bind_some,fin_brk]
 exact ⟨m,rfl,h2⟩
end Go.G
