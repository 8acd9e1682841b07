/- LMd: debts in order. In plain Lean, no program in sight. -/
import Derived.Test.YtlkpfhdlfapfhadGreatDoorLYe
import Derived.Test.YtlkpfhdlfapfhadGreatDoorLS2
namespace Go.G
open Go Go.J
set_option linter.unusedSimpArgs false
theorem bC6 {a b:ByteArray} (h:D6 a=D6 b):a=b:=aZ8 h
theorem insS (u:List Tclub_debt) (a b:Int):p7 u a b=isM x9 u a b:=rfl
theorem bl4 {n:Nat} (h:n≤1000):IntKind.wrap .u64 (n:Int)=n:=by rw [IntKind.wrap_u64]; omega
theorem br5 (u:List Tclub_debt) (h:u.length≤12):m6 u=isM x9 u 0 (u.length:Int):=by
 unfold m6 an6 al6
 rw [bl4 (by omega),if_pos (by omega)]
 simp only [Option.bind_some]
 unfold v6
 cases hs:isM x9 u 0 (u.length:Int) with
 | none =>
  exfalso
  have hc:∀ x∈u,∀ y∈u,∃ c,x9 x y=some c:=fun x _ y _=>by
   unfold x9 H3 U4 D9
   simp only [bne_self_eq_false,Option.bind_some,j4]
   have:∀ (c:Int),∃ d,(W0 [c,Lib.compareBytes x.who.data.toList y.who.data.toList])=some d:=fun c=>by
    unfold W0
    rw [o5]
    unfold aj1
    cases (c != 0) with
    | true=>exact ⟨_,rfl⟩
    | false =>
     rw [j4,Option.bind_some,D8,o5]
     cases (Lib.compareBytes x.who.data.toList y.who.data.toList != 0)
     ·exact ⟨_,rfl⟩
     ·exact ⟨_,rfl⟩
   cases decide (y.cents<x.cents)
   ·cases decide (y.cents>x.cents)
    ·obtain ⟨d,hd⟩:=this 0; exact ⟨d,by simp only [j4,Option.bind_some,hd]⟩
    ·obtain ⟨d,hd⟩:=this 1; exact ⟨d,by simp only [j4,j9,Option.bind_some,hd]⟩
   ·obtain ⟨d,hd⟩:=this (-1); exact ⟨d,by simp only [j9,Option.bind_some,hd]⟩
  obtain ⟨m,hm,-⟩:=bd9 x9 u (by omega) hc
  rw [hm] at hs; cases hs
 | some m =>
  have h1:∀ k,A7 u 0 (u.length:Int) k ()=some (.ret m):=fun k=>by
   unfold A7
   rw [A0 (by omega),decide_eq_true (by omega),j9,insS,hs]; rfl
  rw [o6 (h1 _)]; rfl
def RS (a b:Tclub_debt):Prop:=b.cents<a.cents∨(b.cents=a.cents∧D6 a.who<D6 b.who)
def ltS (a b:Tclub_debt):Bool:=decide (b.cents<a.cents)||(decide (b.cents=a.cents)&&decide (Lib.compareBytes (D6 a.who) (D6 b.who) = -1))
theorem bW8 {a b:Bs}:Lib.compareBytes a b = -1↔a<b:=by
 rcases aP4 a b with ⟨h1,h2⟩ | ⟨h1,h2⟩ | ⟨h1,h2⟩
 ·exact ⟨fun _=>h2,fun _=>h1⟩
 ·rw [h1]; exact ⟨fun h=>by omega,fun h=>(bk0 _ (h2 ▸ h)).elim⟩
 ·rw [h1]; exact ⟨fun h=>by omega,fun h=>(bk1 h h2).elim⟩
theorem bM0 {a b:Tclub_debt}:ltS a b=true↔RS a b:=by
 unfold ltS RS
 rw [Bool.or_eq_true,Bool.and_eq_true,decide_eq_true_eq,decide_eq_true_eq,decide_eq_true_eq,bW8]
theorem bJ7 (a b c:Tclub_debt) (h1:RS a b) (h2:RS b c):RS a c:=by
 unfold RS at *
 rcases h1 with h1 | ⟨h1,h3⟩
 ·rcases h2 with h2 | ⟨h2,h4⟩
  ·left; omega
  ·left; omega
 ·rcases h2 with h2 | ⟨h2,h4⟩
  ·left; omega
  ·right; exact ⟨by omega,aZ9 h3 h4⟩
theorem bX0 (a b:Tclub_debt) (h:a.who≠b.who):RS a b∨RS b a:=by
 unfold RS
 rcases Int.lt_trichotomy a.cents b.cents with h1 | h1 | h1
 ·right; left; exact h1
 ·rcases bj9 (D6 a.who) (D6 b.who) with h2 | h2 | h2
  ·left; right; exact ⟨h1.symm,h2⟩
  ·exact (h (bC6 h2)).elim
  ·right; right; exact ⟨h1,h2⟩
 ·left; left; exact h1
theorem bj4 (a b:Tclub_debt):∃ c,x9 a b=some c∧decide (c<0)=ltS a b:=by
 unfold x9 H3 U4 D9
 simp only [bne_self_eq_false,Option.bind_some,j4]
 have hor:∀ (c d:Int),W0 [c,d]=some (if c≠0 then c else d):=fun c d=>by
  unfold W0
  rw [o5]
  unfold aj1
  by_cases h:c=0
  ·subst h
   rw [show ((0:Int) != 0)=false from rfl,j4,Option.bind_some,D8,o5]
   by_cases h2:d=0
   ·subst h2; rfl
   ·rw [show (d != 0)=true by simpa using h2]; rfl
  ·rw [show (c != 0)=true by simpa using h,if_pos h]; rfl
 have hcb:Lib.compareBytes a.who.data.toList b.who.data.toList=Lib.compareBytes (D6 a.who) (D6 b.who):=rfl
 unfold ltS
 by_cases h1:b.cents<a.cents
 ·simp only [decide_eq_true h1,j9,Option.bind_some,hor,Bool.true_or]
  exact ⟨_,rfl,by rw [if_pos (by decide)]; decide⟩
 ·by_cases h2:b.cents>a.cents
  ·simp only [decide_eq_false h1,decide_eq_true h2,j9,j4,Option.bind_some,hor,Bool.false_or]
   refine ⟨_,rfl,?_⟩
   rw [decide_eq_false (show ¬ b.cents=a.cents by omega)]; rfl
  ·simp only [decide_eq_false h1,decide_eq_false h2,j4,Option.bind_some,hor,Bool.false_or]
   refine ⟨_,rfl,?_⟩
   rw [decide_eq_true (show b.cents=a.cents by omega),Bool.true_and,hcb,if_neg (by simp)]
   rcases aP4 (D6 a.who) (D6 b.who) with ⟨h3,-⟩ | ⟨h3,-⟩ | ⟨h3,-⟩ <;> rw [h3] <;> rfl
theorem be5 {l l':List Tclub_debt} (hp:l'.Perm l) (hn:(l.map (·.who)).Nodup):l'.foldl (ins ltS) []=l.foldl (ins ltS) []:=by
 have sorted:∀ L:List Tclub_debt,L.Perm l→(L.foldl (ins ltS) []).Pairwise RS:=fun L hL=>by
  refine bp3 ltS bJ7 _ [] List.Pairwise.nil (fun _ _ y hy=>by cases hy) ?_
  have hnd':(L.map (·.who)).Nodup:=(hL.map (·.who)).nodup_iff.2 hn
  rw [List.nodup_iff_pairwise_ne,List.pairwise_map] at hnd'
  exact hnd'.imp fun {a b} hab=>⟨bM0,(bX0 _ _ fun e=>hab e.symm)⟩
 have perm:∀ L:List Tclub_debt,L.Perm l→(L.foldl (ins ltS) []).Perm l:=fun L hL=>by
  have:=aR7 ltS L []
  rw [List.nil_append] at this
  exact this.trans hL
 exact List.Perm.eq_of_pairwise (fun x y _ _ h3 h4=>by
   exfalso
   unfold RS at h3 h4
   rcases h3 with h3 | ⟨h3,h5⟩
   ·rcases h4 with h4 | ⟨h4,-⟩ <;> omega
   ·rcases h4 with h4 | ⟨-,h6⟩
    ·omega
    ·exact bk1 h5 h6) (sorted l' hp) (sorted l (List.Perm.refl _)) ((perm l' hp).trans (perm l (List.Perm.refl _)).symm)
theorem aB3 (l:List Tclub_debt):(l.foldl (ins ltS) []).Perm l:=by
 have:=aR7 ltS l []
 rwa [List.nil_append] at this
theorem bX8 (u:List Tclub_debt) (h:u.length≤12):m6 u=some (u.foldl (ins ltS) []):=by
 rw [br5 u h]
 exact bx0 ltS x9 u (by omega) fun x _ y _=>bj4 x y
end Go.G
