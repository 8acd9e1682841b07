/- LY3: which acts count: the reference finds the same. In plain Lean, no program in sight. -/
import Derived.Test.YtlkpfhdlfapfhadGreatDoorLY6
import Derived.Test.YtlkpfhdlfapfhadGreatDoorLYq
namespace Go.G
open Go Go.J
set_option linter.unusedSimpArgs false
theorem bA1 (at_:Int) (l:List TAct) (hl:l.length≤100000) (hat:∀ x∈l,x.At≤at_):∀ (fu:Nat) (i:Nat) (x:TAct),l[i]? = some x→l.length - i≤fu →
  r7 fu (i:Int) l=some (cnt at_ x (l.drop (i+1))):=by
 intro fu
 induction fu with
 | zero=>intro i x hx h; have:=(List.getElem?_eq_some_iff.1 hx).1; omega
 | succ fu ih =>
  intro i x hx hfu
  have hi:=(List.getElem?_eq_some_iff.1 hx).1
  show E5 (r7 fu) (i:Int) l=_
  unfold E5
  rw [A0 (by omega)]
  have hx':v8 l (i:Int)=some x:=Y6 rfl hx
  have hxa:x.At≤at_:=hat x (List.mem_of_getElem? hx)
  have key:=bB0 (N0 (i:Int) l (r7 fu)) (fun u=>∃ k:Nat,u=k∧i<k∧k≤l.length) (fun u=>l.length - u.toNat)
   (fun u=>bif und at_ (l.drop u.toNat) (own x) then .ret false else .brk (l.length:Int)) (by
   rintro u ⟨k,rfl,hk1,hk2⟩
   unfold N0
   by_cases hk:k<l.length
   ·rw [decide_eq_true (show (k:Int)<(l.length:Int) by omega),j9]
    have hy:l[k]? = some (l[k]'hk):=List.getElem?_eq_getElem hk
    have hy':v8 l (k:Int)=some (l[k]'hk):=Y6 rfl hy
    generalize hyy:l[k]'hk=y at hy hy'
    have hd:l.drop k=y::l.drop (k+1):=by rw [List.drop_eq_getElem_cons hk,hyy]
    have e2:((v8 l (k:Int)).bind fun e8=>ifB (e8.Kind==7) ((v8 l (k:Int)).bind fun e9=>(v8 l (i:Int)).bind fun e10=>ifB (e9.Of.toList==e10.Site.toList) ((v8 l (k:Int)).bind fun e11=>(v8 l (i:Int)).bind fun e12=>ifB (e11.Other==e12.No) ((r7 fu (k:Int) l).bind fun y13=>some (.inl y13)) (some (.inl false))) (some (.inl false))) (some (.inl false)):Option (Bool ⊕ (Flow Int Bool)))
      = some (.inl (cnt at_ y (l.drop (k+1))&&((y.Kind==7)&&decide (own x=⟨y.Of,y.Other⟩)))):=by
     rw [hy',hx',ih k y hy (by omega)]
     simp only [Option.bind_some]
     cases h7:(y.Kind==7)
     ·simp
     ·have e3:decide (own x=⟨y.Of,y.Other⟩)=(decide (y.Of=x.Site)&&decide (y.Other=x.No)):=by
       unfold own
       rw [Bool.eq_iff_iff]
       simp only [Tclub_own.mk.injEq,decide_eq_true_eq,Bool.and_eq_true]
       exact ⟨fun h=>⟨h.1.symm,h.2.symm⟩,fun h=>⟨h.1.symm,h.2.symm⟩⟩
      rw [e3]
      by_cases h1:y.Of=x.Site
      ·rw [show (y.Of.toList==x.Site.toList)=true by rw [h1]; simp,decide_eq_true h1]
       by_cases h2:y.Other=x.No
       ·rw [show (y.Other==x.No)=true by simpa using h2,decide_eq_true h2]; simp
       ·rw [show (y.Other==x.No)=false by simpa using h2,decide_eq_false h2]; simp
      ·rw [show (y.Of.toList==x.Site.toList)=false by
        rw [Bool.eq_false_iff]; intro e; exact h1 (ad5.1 (by simpa using e)),decide_eq_false h1]; simp
    rw [e2,Option.bind_some,C9]
    have e4:und at_ (l.drop ((k:Int)).toNat) (own x)=(und at_ (l.drop (k+1)) (own x)||(cnt at_ y (l.drop (k+1))&&((y.Kind==7)&&decide (own x=⟨y.Of,y.Other⟩)))):=by
     rw [Int.toNat_natCast,hd,as2]
    simp only [e4]
    cases hc:(cnt at_ y (l.drop (k+1))&&((y.Kind==7)&&decide (own x=⟨y.Of,y.Other⟩)))
    ·left
     refine ⟨((k+1:Nat):Int),by rw [j4,A0 (by omega)]; rfl,⟨k+1,rfl,by omega,by omega⟩,by simp only [Int.toNat_natCast]; omega,?_⟩
     rw [Bool.or_false,Int.toNat_natCast]
    ·right; right
     exact ⟨false,rfl,by rw [Bool.or_true]; rfl⟩
   ·right; left
    have:k=l.length:=by omega
    subst this
    rw [decide_eq_false (by omega),j4]
    exact ⟨_,rfl,by rw [Int.toNat_natCast,List.drop_length]; rfl⟩) ((i:Int)+1) ⟨i+1,by simp,by omega,by omega⟩
  rw [key,Option.bind_some,show ((i:Int)+1).toNat=i+1 by omega]
  unfold cnt
  rw [decide_eq_true hxa]
  cases und at_ (l.drop (i+1)) (own x) <;> rfl
theorem br0 (at_:Int):∀ (l:List TAct) (k:Tclub_own),und at_ (l.filter fun x=>decide (x.At≤at_)) k=und at_ l k:=by
 intro l
 induction l with
 | nil=>intro k; rfl
 | cons x t ih =>
  intro k
  by_cases h:x.At≤at_
  ·rw [List.filter_cons_of_pos (by simpa using h),as2,as2,ih]
   unfold cnt
   rw [ih]
  ·rw [List.filter_cons_of_neg (by simpa using h),as2,ih]
   unfold cnt
   rw [decide_eq_false h]; simp
theorem bu2 (at_:Int):∀ (l:List TAct) (i:Nat),(∀ x∈l,¬ x.At≤at_)→W7 at_ i l=[]:=by
 intro l
 induction l with
 | nil=>intro i _; rfl
 | cons x t ih =>
  intro i h
  unfold W7 cnt
  rw [decide_eq_false (h x (List.mem_cons_self ..)),ih _ fun y hy=>h y (List.mem_cons_of_mem _ hy)]; rfl
theorem bj3 (at_:Int):∀ (l:List TAct) (i:Nat),l.Pairwise (fun x y=>x.At≤y.At)→W7 at_ i (l.filter fun x=>decide (x.At≤at_))=W7 at_ i l:=by
 intro l
 induction l with
 | nil=>intro i _; rfl
 | cons x t ih =>
  intro i hp
  rw [List.pairwise_cons] at hp
  by_cases h:x.At≤at_
  ·rw [List.filter_cons_of_pos (by simpa using h)]
   unfold W7
   rw [ih _ hp.2]
   unfold cnt
   rw [br0]
  ·rw [List.filter_cons_of_neg (by simpa using h),List.filter_eq_nil_iff.2 (fun y hy=>by have:=hp.1 y hy; simp; omega),bu2 at_ (x::t) i (fun y hy=>by
    rcases List.mem_cons.1 hy with rfl | hy
    ·exact h
    ·have:=hp.1 y hy; omega)]
   rfl
theorem aV2 (l:List TAct) (at_:Int) (h:ActsOK l):P4 l at_=some (W7 at_ 0 l):=by
 have hl:=h.len
 unfold P4
 rw [ag5 _ (fun x=>if x.At≤at_ then some x else none) l (by
  intro i x s hx hs
  have hi:=(List.getElem?_eq_some_iff.1 hx).1
  unfold ai6
  by_cases hx:x.At≤at_
  ·rw [decide_eq_true hx,j9,Q7 (by simp; omega) (by omega)]; simp [hx]
  ·rw [decide_eq_false hx,j4]; simp [hx])]
 rw [Option.bind_some,D5]
 have e1:(l.filterMap fun x=>if x.At≤at_ then some x else none)=l.filter fun x=>decide (x.At≤at_):=by
  rw [← List.filterMap_eq_filter]
  congr 1
  funext x
  by_cases hx:x.At≤at_ <;> simp [hx,Option.guard]
 rw [e1,← bj3 at_ l 0 (bE8 h.ord)]
 generalize hL:(l.filter fun x=>decide (x.At≤at_))=L
 have hLl:L.length≤2000:=by rw [← hL]; exact Nat.le_trans (List.length_filter_le ..) hl
 have hat:∀ x∈L,x.At≤at_:=fun x hx=>by rw [← hL] at hx; simpa using (List.mem_filter.1 hx).2
 have key:∀ (t:List TAct) (i:Nat) (s:List Int),L.drop i=t→s.length≤i→l8 (Q6 L) i t s=some (.brk (s++W7 at_ i t)):=by
  intro t
  induction t with
  | nil=>intro i s _ _; simp [W7]
  | cons x t ih =>
   intro i s hd hs
   have hx:L[i]? = some x:=by
    have:(L.drop i)[0]? = some x:=by rw [hd]; rfl
    simpa using this
   have hi:=(List.getElem?_eq_some_iff.1 hx).1
   have hd':L.drop (i+1)=t:=by rw [← List.drop_drop,hd]; rfl
   have hst:Q6 L i x s=some (.nxt (s++bif cnt at_ x t then [(i:Int)] else [])):=by
    unfold Q6
    rw [bA1 at_ L (by omega) hat bP9 i x hx (by unfold bP9; omega),Option.bind_some,hd']
    cases cnt at_ x t
    ·simp
    ·rw [j9,Q7 (by simp; omega) (by omega)]; rfl
   rw [o5,hst,Option.bind_some,D8,ih (i+1) _ hd' (by cases cnt at_ x t <;> simp <;> omega)]
   simp [W7]
 rw [key L 0 [] rfl (by simp),Option.bind_some,D5]; simp
end Go.G
