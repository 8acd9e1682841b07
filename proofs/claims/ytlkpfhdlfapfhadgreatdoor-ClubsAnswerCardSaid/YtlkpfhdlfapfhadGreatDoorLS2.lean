/- LS2: insertion sort, exactly: what it yields, and that it is in order. No program in sight. -/
import Derived.Test.YtlkpfhdlfapfhadGreatDoorLS1
namespace Go.G
open Go Go.J
set_option linter.unusedSimpArgs false
section
variable {α : Type} (lt : α → α → Bool)
def at6:List α → α → List α
 | [],x=>[x]
 | y::t,x=>bif lt x y then y::at6 t x else x::y::t
theorem ak8 (y : α) (t:List α) (x : α):at6 lt (y::t) x=bif lt x y then y::at6 lt t x else x::y::t:=rfl
def ins (p:List α) (x : α):List α:=(at6 lt p.reverse x).reverse
theorem aT8:∀ (p:List α) (x : α),(at6 lt p x).Perm (x::p):=by
 intro p
 induction p with
 | nil=>intro x; exact List.Perm.refl _
 | cons y t ih =>
  intro x
  rw [ak8]
  cases lt x y with
  | true=>exact ((ih x).cons y).trans (List.Perm.swap _ _ _)
  | false=>exact List.Perm.refl _
theorem aO2 (p:List α) (x : α):(ins lt p x).Perm (x::p) :=
 (List.reverse_perm _).trans ((aT8 lt _ x).trans ((List.reverse_perm p).cons x))
theorem aR7:∀ (q p:List α),(q.foldl (ins lt) p).Perm (p++q):=by
 intro q
 induction q with
 | nil=>intro p; simp
 | cons x q ih =>
  intro p
  refine (ih (ins lt p x)).trans ?_
  refine ((aO2 lt p x).append_right q).trans ?_
  exact List.perm_middle.symm
theorem bx1 (p:List α) (x : α):(ins lt p x).length=p.length+1:=by rw [(aO2 lt p x).length_eq]; rfl
theorem bG1 {ρ : Type} (cmp : α → α → Option Int) (x : α):∀ (rp:List α) (post:List α),(∀ y∈rp,∃ c,cmp x y=some c∧decide (c<0)=lt x y)→rp.length+post.length≤1000000 →
  ∃ k:Int,J2 (bh6 (ρ:=ρ) cmp 0) ((rp.length:Int),rp.reverse++x::post)=some (.brk (k,(at6 lt rp x).reverse++post)):=by
 intro rp
 induction rp with
 | nil =>
  intro post _ _
  refine ⟨0,?_⟩
  have:bh6 (ρ:=ρ) cmp 0 ((0:Int),x::post)=some (.brk (0,x::post)):=by
   unfold bh6; simp
  show J2 _ ((0:Int),x::post)=_
  rw [o6 this]; rfl
 | cons y t ih =>
  intro post hc hl
  obtain ⟨c,h1,h2⟩:=hc y (List.mem_cons_self ..)
  have hlen:(y::t).length=t.length+1:=rfl
  have e1:v8 ((y::t).reverse++x::post) ((t.length:Int)+1)=some x:=Y6 (n:=t.length+1) (by omega) (by
   rw [List.getElem?_append_right (by simp)]; simp)
  have e2:v8 ((y::t).reverse++x::post) ((t.length:Int))=some y:=Y6 (n:=t.length) rfl (by
   rw [List.getElem?_append_left (by simp),List.reverse_cons,List.getElem?_append_right (by simp)]; simp)
  have hstep:bh6 (ρ:=ρ) cmp 0 (((y::t).length:Int),(y::t).reverse++x::post)=some (bif lt x y then .nxt ((t.length:Int),t.reverse++x::(y::post)) else .brk (((y::t).length:Int),(y::t).reverse++x::post)):=by
   unfold bh6
   have hg:((y::t).length:Int)>0:=by rw [hlen]; omega
   simp only [decide_eq_true hg,j9]
   rw [hlen]
   simp only [List.length_cons] at hl
   rw [show ((t.length+1:Nat):Int)=(t.length:Int)+1 by omega,A0 (by omega),show (t.length:Int)+1 - 1=t.length by omega,e1,e2,Option.bind_some,Option.bind_some,h1,Option.bind_some,h2]
   cases lt x y with
   | false=>rfl
   | true =>
    simp only [j9,Option.bind_some,cond_true]
    have hset:((y::t).reverse++x::post).set ((t.length:Int)+1).toNat y=(y::t).reverse++y::post:=by
     rw [show ((t.length:Int)+1).toNat=(y::t).reverse.length by simp,List.set_append_right _ _ (Nat.le_refl _)]
     simp
    have hset2:((y::t).reverse++y::post).set ((t.length:Int)).toNat x=t.reverse++x::y::post:=by
     rw [show ((t.length:Int)).toNat=t.reverse.length by simp,List.reverse_cons,List.append_assoc,List.set_append_right _ _ (Nat.le_refl _)]
     simp
    rw [hset]
    have e4:v8 ((y::t).reverse++y::post) ((t.length:Int))=some y:=Y6 (n:=t.length) rfl (by
     rw [List.getElem?_append_left (by simp),List.reverse_cons,List.getElem?_append_right (by simp)]; simp)
    rw [e4,Option.bind_some,hset2]
  rw [o6 hstep]
  cases hlt:lt x y with
  | false =>
   refine ⟨((y::t).length:Int),?_⟩
   rw [ak8,hlt]
   show some (Flow.brk _)=_
   simp
  | true =>
   simp only [List.length_cons] at hl
   obtain ⟨k,hk⟩:=ih (y::post) (fun z hz=>hc z (List.mem_cons_of_mem _ hz)) (by simp; omega)
   refine ⟨k,?_⟩
   show J2 _ ((t.length:Int),t.reverse++x::(y::post))=_
   rw [hk]
   rw [ak8,hlt]
   simp
theorem bG2 {ρ : Type} (cmp : α → α → Option Int) (n:Nat) (hn:n≤900000):∀ (q p:List α),(∀ x∈q,∀ y∈p++q,∃ c,cmp x y=some c∧decide (c<0)=lt x y)→p.length+q.length=n →
  J2 (aU9 (ρ:=ρ) cmp 0 (n:Int)) ((p.length:Int),p++q)=some (.brk ((n:Int),q.foldl (ins lt) p)):=by
 intro q
 induction q with
 | nil =>
  intro p _ hl
  have:aU9 (ρ:=ρ) cmp 0 (n:Int) ((p.length:Int),p++[])=some (.brk ((n:Int),p)):=by
   unfold aU9
   simp only [List.length_nil,Nat.add_zero] at hl
   rw [decide_eq_false (by simp only; omega)]
   simp [hl]
  rw [o6 this]; rfl
 | cons x q ih =>
  intro p hc hl
  simp only [List.length_cons] at hl
  obtain ⟨k,hk⟩:=bG1 lt (ρ:=Flow (Int × List α) ρ) cmp x p.reverse q (fun y hy=>hc x (List.mem_cons_self ..) y (List.mem_append_left _ (List.mem_reverse.1 hy))) (by simp; omega)
  rw [List.length_reverse,List.reverse_reverse] at hk
  have hstep:aU9 (ρ:=ρ) cmp 0 (n:Int) ((p.length:Int),p++x::q)=some (.nxt (((ins lt p x).length:Int),ins lt p x++q)):=by
   unfold aU9
   rw [decide_eq_true (by simp only; omega)]
   simp only [j9,hk,Option.bind_some,D5]
   rw [A0 (by omega),bx1]
   rfl
  rw [o6 hstep]
  show J2 _ (((ins lt p x).length:Int),ins lt p x++q)=_
  rw [ih (ins lt p x) (fun z hz y hy=>hc z (List.mem_cons_of_mem _ hz) y (by
   rcases List.mem_append.1 hy with h | h
   ·rcases List.mem_cons.1 ((aO2 lt p x).subset h) with rfl | h
    ·exact List.mem_append_right _ (List.mem_cons_self ..)
    ·exact List.mem_append_left _ h
   ·exact List.mem_append_right _ (List.mem_cons_of_mem _ h))) (by rw [bx1]; omega)]
  rfl
theorem bx0 (cmp : α → α → Option Int) (l:List α) (hl:l.length≤900000) (hc:∀ x∈l,∀ y∈l,∃ c,cmp x y=some c∧decide (c<0)=lt x y):isM cmp l 0 (l.length:Int)=some (l.foldl (ins lt) []):=by
 unfold isM
 rw [A0 (by omega)]
 cases l with
 | nil =>
  have:aU9 (ρ:=List α) cmp 0 (([]:List α).length:Int) ((0+1:Int),[])=some (.brk (1,[])):=by unfold aU9; simp
  rw [o6 this]; rfl
 | cons x q =>
  have:=bG2 lt (ρ:=List α) cmp (x::q).length hl q [x] (fun z hz y hy=>hc z (List.mem_cons_of_mem _ hz) y hy) (by simp; omega)
  show (J2 _ ((([x]:List α).length:Int),[x]++q)).bind _=_
  rw [this]; rfl
theorem bt9 {R : α → α → Prop} (htr:∀ a b c,R a b→R b c→R a c) {p:List α} {x : α} (hp:p.Pairwise R) (hx:∀ y∈p,(lt x y=true↔R x y)∧(R x y∨R y x)):(ins lt p x).Pairwise R:=by
 unfold ins
 rw [List.pairwise_reverse]
 have key:∀ rp:List α,rp.Pairwise (fun a b=>R b a)→(∀ y∈rp,(lt x y=true↔R x y)∧(R x y∨R y x))→(at6 lt rp x).Pairwise (fun a b=>R b a):=by
  intro rp
  induction rp with
  | nil=>intro _ _; simp [at6]
  | cons y t ih =>
   intro h1 h2
   rw [List.pairwise_cons] at h1
   have hy:=h2 y (List.mem_cons_self ..)
   rw [ak8]
   cases hlt:lt x y with
   | true =>
    show (y::at6 lt t x).Pairwise _
    rw [List.pairwise_cons]
    refine ⟨fun z hz=>?_,ih h1.2 fun z hz=>h2 z (List.mem_cons_of_mem _ hz)⟩
    rcases List.mem_cons.1 ((aT8 lt t x).subset hz) with rfl | hz
    ·exact hy.1.1 hlt
    ·exact h1.1 z hz
   | false =>
    show (x::y::t).Pairwise _
    have hyx:R y x:=by
     rcases hy.2 with h | h
     ·rw [← hy.1,hlt] at h; cases h
     ·exact h
    rw [List.pairwise_cons,List.pairwise_cons]
    refine ⟨fun z hz=>?_,h1⟩
    rcases List.mem_cons.1 hz with rfl | hz
    ·exact hyx
    ·exact htr z y x (h1.1 z hz) hyx
 exact key p.reverse (by rw [List.pairwise_reverse]; exact hp) fun y hy=>hx y (List.mem_reverse.1 hy)
theorem bp3 {R : α → α → Prop} (htr:∀ a b c,R a b→R b c→R a c):∀ (q p:List α),p.Pairwise R→(∀ x∈q,∀ y∈p,(lt x y=true↔R x y)∧(R x y∨R y x))→q.Pairwise (fun a b=>(lt b a=true↔R b a)∧(R b a∨R a b)) →
  (q.foldl (ins lt) p).Pairwise R:=by
 intro q
 induction q with
 | nil=>intro p hp _ _; exact hp
 | cons x q ih =>
  intro p hp h1 h2
  rw [List.pairwise_cons] at h2
  refine ih (ins lt p x) (bt9 lt htr hp (h1 x (List.mem_cons_self ..))) (fun z hz y hy=>?_) h2.2
  rcases List.mem_cons.1 ((aO2 lt p x).subset hy) with rfl | hy
  ·exact h2.1 z hz
  ·exact h1 z (List.mem_cons_of_mem _ hz) y hy
end
end Go.G
