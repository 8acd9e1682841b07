/- LS1: the library's loops over slices, in plain Lean, once for all elements: looking, deleting, insertion sort. No program in sight. -/
import Derived.Test.YtlkpfhdlfapfhadGreatDoorL0
namespace Go.G
open Go Go.J
theorem ag5 {α β ρ : Type} (step:Nat → α → List β → Option (Flow (List β) ρ)) (f : α → Option β) (xs:List α)
  (h:∀ i x (s:List β),xs[i]? = some x→s.length≤i→step i x s=some (.nxt (s++(f x).toList))):l8 step 0 xs []=some (.brk (xs.filterMap f)):=by
 obtain ⟨s,h1,h2,-⟩:=Q8 step xs (fun i s=>s=(xs.take i).filterMap f∧s.length≤i) (by
  rintro i x s hx ⟨rfl,hl⟩
  refine ⟨_,h i x _ hx hl,?_,?_⟩
  ·rw [List.take_add_one,hx,List.filterMap_append]
   cases hf:f x <;> simp [hf]
  ·rw [List.length_append]
   cases f x <;> simp <;> omega) [] ⟨rfl,by simp⟩
 rw [h1,h2,List.take_length]
def bV0 {α : Type} (p : α → Option Bool) (i1:Nat) (x2 : α) (_:Unit):Option (Flow Unit Int):=(p x2).bind fun y8=>ifB y8 (some (.ret (i1:Int))) (some (.nxt ()))
def ixM {α : Type} (p : α → Option Bool) (a0:List α):Option Int:=(l8 (bV0 p) 0 a0 ()).bind fun f7=>Flow.fin f7 fun _=>some (-1)
theorem aT0 {α σ ρ : Type} (step:Nat → α → σ → Option (Flow σ ρ)) (xs:List α) (I:Nat → σ → Prop) (Q:Flow σ ρ → Prop)
  (h:∀ i x s,xs[i]? = some x→I i s→∃ f,step i x s=some f∧(∀ s',f = .nxt s'→I (i+1) s')∧(∀ s',f = .brk s'→Q (.brk s'))∧∀ v,f = .ret v→Q (.ret v))
  (he:∀ s,I xs.length s→Q (.brk s)) (s : σ) (h0:I 0 s):∃ f,l8 step 0 xs s=some f∧Q f:=by
 have key:∀ (t:List α) (i:Nat) (s : σ),xs.drop i=t→i+t.length=xs.length→I i s→∃ f,l8 step i t s=some f∧Q f:=by
  intro t
  induction t with
  | nil=>intro i s _ hl hs; exact ⟨.brk s,rfl,he s (by simpa using hl ▸ hs)⟩
  | cons x t ih =>
   intro i s hd hl hs
   have hx:xs[i]? = some x:=by
    have:(xs.drop i)[0]? = some x:=by rw [hd]; rfl
    simpa using this
   obtain ⟨f,h1,h2,h3,h4⟩:=h i x s hx hs
   have hd':xs.drop (i+1)=t:=by rw [← List.drop_drop,hd]; rfl
   rw [o5,h1]
   cases f with
   | nxt s'=>exact ih (i+1) s' hd' (by simp at hl; omega) (h2 s' rfl)
   | brk s'=>exact ⟨_,rfl,h3 s' rfl⟩
   | ret v=>exact ⟨_,rfl,h4 v rfl⟩
 exact key xs 0 s rfl (by simp) h0
theorem bG0 {α : Type} (p : α → Option Bool) (d : α → Bool) (l:List α) (hp:∀ x∈l,p x=some (d x)) :
  ∃ n,ixM p l=some n∧((n = -1∧∀ x∈l,d x=false)∨∃ k:Nat,n=k∧k<l.length∧(∀ x∈l.take k,d x=false)∧∃ x,l[k]? = some x∧d x=true):=by
 unfold ixM
 obtain ⟨f,h1,h2⟩:=aT0 (bV0 p) l (fun i _=>∀ x∈l.take i,d x=false)
  (fun f=>match f with | .nxt _=>False | .brk _=>∀ x∈l,d x=false | .ret n=>∃ k:Nat,n=k∧k<l.length∧(∀ x∈l.take k,d x=false)∧∃ x,l[k]? = some x∧d x=true) (by
  intro i x s hx hI
  have hi:=(List.getElem?_eq_some_iff.1 hx).1
  unfold bV0
  rw [hp x (List.mem_of_getElem? hx),Option.bind_some]
  cases hd:d x with
  | true=>exact ⟨.ret i,rfl,by simp,by simp,fun v hv=>by cases hv; exact ⟨i,rfl,hi,hI,x,hx,hd⟩⟩
  | false =>
   refine ⟨.nxt (),rfl,fun _ _ y hy=>?_,by simp,by simp⟩
   rw [List.take_add_one,hx] at hy
   rcases List.mem_append.1 hy with h | h
   ·exact hI y h
   ·simp at h; subst h; exact hd) (fun s hI x hx=>hI x (by rw [List.take_length]; exact hx)) () (by simp)
 rw [h1,Option.bind_some]
 cases f with
 | nxt s=>exact h2.elim
 | brk s=>exact ⟨-1,rfl,.inl ⟨rfl,h2⟩⟩
 | ret n=>exact ⟨n,rfl,.inr h2⟩
noncomputable def bh6 {α ρ : Type} (cmp : α → α → Option Int) (a1:Int) (u5:Int × List α):Option (Flow (Int × List α) ρ) :=
 ifB (decide (u5.1>a1)) ((v8 u5.2 u5.1).bind fun e9=>(v8 u5.2 (w64 (u5.1 - 1))).bind fun e10=>(cmp e9 e10).bind fun y11=>ifB (decide (y11<0)) ((v8 u5.2 (w64 (u5.1 - 1))).bind fun e12=>(v8 u5.2 u5.1).bind fun e13=>(v8 u5.2 u5.1).bind fun _=>(v8 (u5.2.set u5.1.toNat e12) (w64 (u5.1 - 1))).bind fun _=>some (.nxt (w64 (u5.1 - 1),((u5.2.set u5.1.toNat e12).set ((w64 (u5.1 - 1)).toNat) e13)))) (some (.brk (u5.1,u5.2)))) (some (.brk (u5.1,u5.2)))
noncomputable def aU9 {α ρ : Type} (cmp : α → α → Option Int) (a1 a2:Int) (u1:Int × List α):Option (Flow (Int × List α) ρ) :=
 ifB (decide (u1.1<a2)) ((J2 (bh6 (ρ:=Flow (Int × List α) ρ) cmp a1) (u1.1,u1.2)).bind fun f8=>Flow.fin f8 fun u5=>some (.nxt (w64 (u1.1+1),u5.2))) (some (.brk (u1.1,u1.2)))
noncomputable def isM {α : Type} (cmp : α → α → Option Int) (a0:List α) (a1 a2:Int):Option (List α) :=
 (J2 (aU9 (ρ:=List α) cmp a1 a2) (w64 (a1+1),a0)).bind fun f4=>Flow.fin f4 fun u1=>some u1.2
theorem bt8 {α ρ : Type} (cmp : α → α → Option Int) (l:List α) (hl:l.length≤1000000) (hc:∀ x∈l,∀ y∈l,∃ c,cmp x y=some c) (j:Nat) (hj:j<l.length∨j=0) :
  ∃ (m:List α) (k:Nat),J2 (bh6 (ρ:=ρ) cmp 0) ((j:Int),l)=some (.brk ((k:Int),m))∧List.Perm m l:=by
 obtain ⟨f,h1,m,k,rfl,h2⟩:=aA6 (ρ:=ρ) (bh6 cmp 0) (fun s=>∃ (i:Nat) (m:List α),s=((i:Int),m)∧(i<l.length∨i=0)∧List.Perm m l) (fun s=>s.1.toNat) (fun f=>∃ (m:List α) (k:Nat),f = .brk ((k:Int),m)∧List.Perm m l) (by
  rintro s ⟨i,m,rfl,hi,hp⟩
  have hlen:=hp.length_eq
  unfold bh6
  simp only
  by_cases h0:(i:Int)>0
  ·have hil:i<m.length:=by omega
   have e1:m[i]? = some m[i]:=List.getElem?_eq_getElem hil
   have e2:m[i - 1]? = some m[i - 1]:=List.getElem?_eq_getElem (by omega)
   have e3:v8 m ((i:Int) - 1)=some m[i - 1]:=Y6 (n:=i - 1) (by omega) e2
   obtain ⟨c,hcc⟩:=hc m[i] (hp.subset (List.getElem_mem _)) m[i - 1] (hp.subset (List.getElem_mem _))
   rw [decide_eq_true h0,j9,A0 (by omega),A8,e1,e3,Option.bind_some,Option.bind_some,hcc,Option.bind_some]
   by_cases hcn:c<0
   ·left
    have e4:v8 (m.set i m[i - 1]) ((i:Int) - 1)=some m[i - 1]:=Y6 (n:=i - 1) (by omega) (by rw [List.getElem?_set_ne (by omega)]; exact e2)
    rw [decide_eq_true hcn,j9]
    simp only [Option.bind_some]
    rw [show ((i:Int)).toNat=i by omega,e4,Option.bind_some]
    refine ⟨_,rfl,⟨i - 1,(m.set i m[i - 1]).set (i - 1) m[i],?_,?_,?_⟩,by simp only; omega⟩
    ·rw [show ((i:Int) - 1).toNat=i - 1 by omega,show (i:Int) - 1=((i - 1:Nat):Int) by omega]
    ·omega
    ·exact (List.set_set_perm (by omega) (by omega)).trans hp
   ·right; left
    rw [decide_eq_false hcn,j4]
    exact ⟨_,rfl,m,i,rfl,hp⟩
  ·right; left
   rw [decide_eq_false h0,j4]
   exact ⟨_,rfl,m,i,rfl,hp⟩) ((j:Int),l) ⟨j,l,rfl,hj,List.Perm.refl _⟩
 exact ⟨m,k,h1,h2⟩
theorem bd9 {α : Type} (cmp : α → α → Option Int) (l:List α) (hl:l.length≤1000000) (hc:∀ x∈l,∀ y∈l,∃ c,cmp x y=some c):∃ m,isM cmp l 0 (l.length:Int)=some m∧List.Perm m l:=by
 unfold isM
 obtain ⟨f,h1,m,k,rfl,h2⟩:=aA6 (ρ:=List α) (aU9 cmp 0 (l.length:Int)) (fun s=>∃ (i:Nat) (m:List α),s=((i:Int),m)∧i≤l.length+1∧List.Perm m l) (fun s=>l.length+1 - s.1.toNat) (fun f=>∃ (m:List α) (k:Int),f = .brk (k,m)∧List.Perm m l) (by
  rintro s ⟨i,m,rfl,hi,hp⟩
  have hlen:=hp.length_eq
  unfold aU9
  simp only
  by_cases h0:(i:Int)<l.length
  ·left
   obtain ⟨m',k,h3,h4⟩:=bt8 (ρ:=Flow (Int × List α) (List α)) cmp m (by omega) (fun x hx y hy=>hc x (hp.subset hx) y (hp.subset hy)) i (.inl (by omega))
   rw [decide_eq_true h0,j9,h3,Option.bind_some,D5,A0 (by omega)]
   exact ⟨_,rfl,⟨i+1,m',by simp,by omega,h4.trans hp⟩,by simp only; omega⟩
  ·right; left
   rw [decide_eq_false h0,j4]
   exact ⟨_,rfl,m,(i:Int),rfl,hp⟩) (w64 (0+1),l) ⟨1,l,by rw [A0 (by omega)]; rfl,by omega,List.Perm.refl _⟩
 rw [h1,Option.bind_some,D5]
 exact ⟨m,rfl,h2⟩
theorem bG3 {α β : Type} (f : α → β) (l:List α) (i:Int):v8 (l.map f) i=(v8 l i).map f:=by unfold v8; split <;> simp
end Go.G
