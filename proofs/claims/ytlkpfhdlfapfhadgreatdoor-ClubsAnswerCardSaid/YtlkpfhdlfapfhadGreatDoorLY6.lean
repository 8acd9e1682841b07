/- Plain laws of the models; no condition beyond what each theorem says. -/
import Derived.Test.YtlkpfhdlfapfhadGreatDoorLKr
import Derived.Test.YtlkpfhdlfapfhadGreatDoorLM
/- LY0: an act by itself, and which of two acts comes first: what the program's club and the reference find. In plain Lean, no program in sight. -/
namespace Go.G
open Go Go.J
set_option linter.unusedSimpArgs false
def inR (n lo hi:Int):Bool:=decide (lo≤n∧n≤hi)
theorem in_R (n lo hi:Int):J0 n lo hi=some (inR n lo hi):=bx2 n lo hi
theorem bS0 (n lo hi:Int):D3 n lo hi=some (!inR n lo hi):=bl2 n lo hi
def an7 (n:Int):Bool:=inR n 0 345686399999
theorem ba7 (n:Int):X7 n=some (an7 n):=by unfold X7; rw [bS0]; simp [an7]
theorem bq7 (n:Int):M9 n=some (an7 n):=by unfold M9; rw [in_R]; simp [an7]
def isE (s:ByteArray):Bool:=s.toList==ByteArray.empty.toList
theorem bM5 (s:ByteArray):isE s=true↔s=ByteArray.empty:=by
 unfold isE
 rw [beq_iff_eq]; exact ad5
def as1 (k:Int):Bool:=k==1||k==2||k==3||k==5
def aJ9 (k:Int):Bool:=k==4||k==5||k==6
def aj3 (k:Int):Bool:=k==1||k==3
theorem bl8 (k:Int):ai7 k=some ⟨as1 k,aJ9 k,aj3 k,k==5,k==7⟩:=by
 by_cases h1:k=1
 ·subst h1; rfl
 by_cases h2:k=2
 ·subst h2; rfl
 by_cases h3:k=3
 ·subst h3; rfl
 by_cases h4:k=4
 ·subst h4; rfl
 by_cases h5:k=5
 ·subst h5; rfl
 by_cases h6:k=6
 ·subst h6; rfl
 have e1:(k==1)=false:=by simpa using h1
 have e2:(k==2)=false:=by simpa using h2
 have e3:(k==3)=false:=by simpa using h3
 have e4:(k==4)=false:=by simpa using h4
 have e5:(k==5)=false:=by simpa using h5
 have e6:(k==6)=false:=by simpa using h6
 unfold ai7 as1 aJ9 aj3
 simp only [e1,e2,e3,e4,e5,e6,j4,Bool.or_false]
def ai1 (x:TAct):Int :=
 bif !T5 x.Site then 5 else bif !inR x.No 1 1000000 || !an7 x.At then 1 else bif !inR x.Kind 1 7 then 4 else
 bif (as1 x.Kind && !T5 x.Who)||(aJ9 x.Kind && !T5 x.Motion)||((x.Kind==7) && !T5 x.Of) then 5 else
 bif (aj3 x.Kind && !inR x.Cents (bif x.Kind==3 then 1 else 0) 1000000000)||((x.Kind==7) && !inR x.Other 1 1000000) then 1 else
 bif (!as1 x.Kind && !isE x.Who)||(!aJ9 x.Kind && !isE x.Motion)||(!aj3 x.Kind&&(x.Cents != 0))||(!(x.Kind==5)&&x.Yes)||(!(x.Kind==7)&&(!isE x.Of||(x.Other != 0))) then 3 else 0
theorem bp2 (x:TAct):ai8 x=some (ai1 x):=by
 unfold ai8 ai1
 simp only [aZ1,bS0,ba7,bl8,Option.bind_some]
 have he:∀ s:ByteArray,(s.toList==ByteArray.empty.toList)=isE s:=fun _=>rfl
 simp only [he]
 generalize T5 x.Site=b1,inR x.No 1 1000000=b2,an7 x.At=b3,inR x.Kind 1 7=b4
 cases b1
 ·rfl
 cases b2
 ·rfl
 cases b3
 ·rfl
 cases b4
 ·rfl
 simp only [Bool.not_true,j4,Option.bind_some,C9,cond_false,Bool.or_false]
 rw [show (ifB (x.Kind==3) (some (.inl 1)) (some (.inl 0)):Option (Int ⊕ Int))=some (.inl (bif x.Kind==3 then 1 else 0)) by cases (x.Kind==3) <;> rfl]
 simp only [Option.bind_some,C9]
 generalize as1 x.Kind=u1,aJ9 x.Kind=u2,aj3 x.Kind=u3,(x.Kind==5)=u4,(x.Kind==7)=u5,inR x.Cents (bif x.Kind==3 then 1 else 0) 1000000000=c1,inR x.Other 1 1000000=c2,T5 x.Who=k1,T5 x.Motion=k2,T5 x.Of=k3,isE x.Who=e1,isE x.Motion=e2,isE x.Of=e3,(x.Cents != 0)=z1,(x.Other != 0)=z2,x.Yes=y
 have s1:((ifB u1 ((some k1).bind fun y17=>ifB (!y17) (some (.inl true)) (ifB u2 ((some k2).bind fun y18=>ifB (!y18) (some (.inl true)) (ifB u5 ((some k3).bind fun y19=>some (.inl (!y19))) (some (.inl false)))) (ifB u5 ((some k3).bind fun y20=>some (.inl (!y20))) (some (.inl false))))) (ifB u2 ((some k2).bind fun y21=>ifB (!y21) (some (.inl true)) (ifB u5 ((some k3).bind fun y22=>some (.inl (!y22))) (some (.inl false)))) (ifB u5 ((some k3).bind fun y23=>some (.inl (!y23))) (some (.inl false))))):Option (Bool ⊕ Int))=some (.inl ((u1 && !k1)||(u2 && !k2)||(u5 && !k3))):=by
  cases u1 <;> cases u2 <;> cases u5 <;> cases k1 <;> cases k2 <;> cases k3 <;> rfl
 simp only [Option.bind_some] at s1
 rw [s1,Option.bind_some,C9]
 generalize ((u1 && !k1)||(u2 && !k2)||(u5 && !k3))=w1
 cases w1
 case true=>rfl
 simp only [j4,cond_false]
 have s2:((ifB u3 (ifB (!c1) (some (.inl true)) (ifB u5 (some (.inl (!c2))) (some (.inl false)))) (ifB u5 (some (.inl (!c2))) (some (.inl false)))):Option (Bool ⊕ Int))=some (.inl ((u3 && !c1)||(u5 && !c2))):=by
  cases u3 <;> cases u5 <;> cases c1 <;> cases c2 <;> rfl
 rw [s2,Option.bind_some,C9]
 generalize ((u3 && !c1)||(u5 && !c2))=w2
 cases w2
 case true=>rfl
 simp only [j4,cond_false]
 cases u1 <;> cases u2 <;> cases u3 <;> cases u4 <;> cases u5 <;> cases e1 <;> cases e2 <;> cases e3 <;> cases z1 <;> cases z2 <;> cases y <;> rfl
end Go.G

/- LY1: what the reference finds wrong with an act by itself: the same. In plain Lean, no program in sight. -/
namespace Go.G
open Go Go.J
set_option linter.unusedSimpArgs false
theorem ba9 (a:List Int) (k:Int):J8 a k=some (a.any fun x=>k==x):=by
 unfold J8
 rw [show V6 a k=ixM (fun x=>some (k==x)) a from rfl]
 exact bQ4 _ _ _ fun x _=>rfl
theorem is1 (x:TAct) (l:List Int):A1 l x.Site x.No x.At x.Kind x.Who x.Motion x.Cents x.Yes x.Of x.Other=some (l.any fun y=>x.Kind==y):=by
 unfold A1
 rw [ba9]; rfl
theorem bP4 (k:Int):([1,2,3,5]:List Int).any (fun y=>k==y)=as1 k:=by
 simp only [List.any_cons,List.any_nil,Bool.or_false,as1,← Bool.or_assoc]
theorem bP6 (k:Int):([4,5,6]:List Int).any (fun y=>k==y)=aJ9 k:=by
 simp only [List.any_cons,List.any_nil,Bool.or_false,aJ9,← Bool.or_assoc]
theorem bP7 (k:Int):([1,3]:List Int).any (fun y=>k==y)=aj3 k:=by
 simp only [List.any_cons,List.any_nil,Bool.or_false,aj3]
theorem bP5 (k n:Int):([n]:List Int).any (fun y=>k==y)=(k==n):=by
 simp only [List.any_cons,List.any_nil,Bool.or_false]
theorem bH1 (x:TAct) (w m o:ByteArray) (c z:Int) (y:Bool) :
  decide (x=⟨x.Site,x.No,x.At,x.Kind,w,m,c,y,o,z⟩)=(decide (x.Who=w)&&decide (x.Motion=m)&&decide (x.Cents=c)&&decide (x.Yes=y)&&decide (x.Of=o)&&decide (x.Other=z)):=by
 obtain ⟨a1,a2,a3,a4,a5,a6,a7,a8,a9,a10⟩:=x
 simp only [TAct.mk.injEq,true_and]
 rw [← Bool.decide_and,← Bool.decide_and,← Bool.decide_and,← Bool.decide_and,← Bool.decide_and]
 simp only [and_assoc]
theorem bW0 {k:Int} (h:aj3 k=false):(k==3)=false:=by
 unfold aj3 at h
 cases h1:(k==3)
 ·rfl
 ·rw [h1] at h; simp at h
theorem bp1 (n:Int):inR n 1 1000000000=(inR n 0 1000000000 && !(n==0)):=by
 unfold inR
 rw [Bool.eq_iff_iff]; simp; omega
instance allBool {P:Bool→Prop} [DecidablePred P]:Decidable (∀ b,P b) := if h:P false∧P true then isTrue (fun b=>by cases b; exact h.1; exact h.2) else isFalse (fun f=>h ⟨f _,f _⟩)
set_option maxHeartbeats 4000000 in
theorem bc5 (x:TAct):U8 x=some (ai1 x):=by
 unfold U8 ai1
 simp only [be0,in_R,bq7,is1,bP4,bP6,bP7,bP5,Option.bind_some,bH1]
 have hE:∀ s:ByteArray,decide (s=ByteArray.empty)=isE s:=fun s=>by rw [Bool.eq_iff_iff,bM5]; simp
 have h3:aj3 x.Kind=false→(x.Kind==3)=false:=bW0
 generalize T5 x.Site=b1,inR x.No 1 1000000=b2,an7 x.At=b3,inR x.Kind 1 7=b4
 cases b1
 ·rfl
 cases b2
 ·rfl
 cases b3
 ·rfl
 cases b4
 ·rfl
 simp only [Bool.not_true,j4,Option.bind_some,C9,cond_false,Bool.or_false]
 have hc:(bif x.Kind==3 then (1:Int) else 0)=1→inR x.Cents (bif x.Kind==3 then 1 else 0) 1000000000=(inR x.Cents 0 1000000000 && !(x.Cents==0)):=fun e=>by rw [e]; exact bp1 _
 have h3':(aj3 x.Kind && !inR x.Cents (bif x.Kind==3 then 1 else 0) 1000000000)=(aj3 x.Kind&&(!inR x.Cents 0 1000000000||((x.Kind==3)&&(x.Cents==0)))):=by
  cases h:(x.Kind==3)
  ·simp
  ·simp only [cond_true,bp1]
   cases inR x.Cents 0 1000000000 <;> cases (x.Cents==0) <;> simp
 rw [h3']
 cases hw:as1 x.Kind <;> cases hm:aJ9 x.Kind <;> cases hu:(x.Kind==7) <;>
  simp only [j9,j4,Option.bind_some,C9,Bool.true_and,Bool.false_and,Bool.false_or,Bool.or_false,Bool.not_true,Bool.not_false]
 all_goals (
  have hz:∀ n:Int,decide (n=0) = !(n != 0):=fun n=>by unfold bne; rw [Bool.not_not]; rfl
  have hy:∀ b:Bool,decide (b=false) = !b:=fun b=>by cases b <;> rfl
  have hz2:(x.Cents==0) = !(x.Cents != 0):=by simp [bne]
  cases hcc:aj3 x.Kind <;> cases h5:(x.Kind==5) <;> cases hk3:(x.Kind==3) <;>
  simp only [j9,j4,Option.bind_some,C9,hE,hz,hy,hz2,decide_true,Bool.true_and,Bool.false_and,Bool.and_true,Bool.not_true,Bool.not_false,Bool.false_or,Bool.or_false])
 all_goals (
  have hz:∀ n:Int,decide (n=0) = !(n != 0):=fun n=>by unfold bne; rw [Bool.not_not]; rfl
  first
  | (generalize T5 x.Who=p1,T5 x.Motion=p2,T5 x.Of=p3,inR x.Cents 0 1000000000=p4,(x.Cents != 0)=p5,isE x.Who=e1,isE x.Motion=e2,isE x.Of=e3,(x.Other != 0)=z2,x.Yes=y,inR x.Other 1 1000000=c2; revert p1 p2 p3 p4 p5 e1 e2 e3 z2 y c2; decide +kernel)
  | (cases inR x.Cents 0 1000000000 <;> cases hz1:(x.Cents != 0) <;> (try simp only [j9,j4,Option.bind_some,C9,bN2,hE,hz,hz1,decide_true,Bool.true_and,Bool.false_and,Bool.and_true,Bool.not_true,Bool.not_false,Bool.false_or,Bool.or_false]) <;>
     first
     | (generalize T5 x.Who=p1,T5 x.Motion=p2,T5 x.Of=p3,isE x.Who=e1,isE x.Motion=e2,isE x.Of=e3,(x.Other != 0)=z2,x.Yes=y,inR x.Other 1 1000000=c2; revert p1 p2 p3 e1 e2 e3 z2 y c2; decide +kernel)
     | (cases T5 x.Who <;> cases T5 x.Motion <;> cases T5 x.Of <;> (try simp only [j9,j4,Option.bind_some,C9,bN2,hE,hz,hz1,decide_true,Bool.true_and,Bool.false_and,Bool.and_true,Bool.not_true,Bool.not_false,Bool.false_or,Bool.or_false]) <;> (generalize isE x.Who=e1,isE x.Motion=e2,isE x.Of=e3,(x.Other != 0)=z2,x.Yes=y,inR x.Other 1 1000000=c2; revert e1 e2 e3 z2 y c2; decide +kernel))))
end Go.G

/- LY2: lists of acts: what CheckActs and the reference's ActsFault find. In plain Lean, no program in sight. -/
namespace Go.G
open Go Go.J
set_option linter.unusedSimpArgs false
def cI (a b:Int):Int:=bif decide (a<b) then -1 else bif decide (a>b) then 1 else 0
theorem by8 {a b:Int}:cI a b=0↔a=b:=by
 unfold cI
 by_cases h:a<b
 ·simp [h]; omega
 ·by_cases h2:a>b
  ·simp [h,h2]; omega
  ·simp [h,h2]; omega
theorem aU2 (a b:Int):H3 a b=some (cI a b):=by
 unfold H3 U4 cI
 have:∀ n:Int,(n != n)=false:=fun n=>by simp
 simp only [this,Option.bind_some,j4]
 cases decide (a<b) <;> cases decide (a>b) <;> rfl
def bj5 (a b:ByteArray):Int:=Lib.compareBytes (D6 a) (D6 b)
theorem aZ8 {a b:ByteArray} (h:D6 a=D6 b):a=b:=by
 have:ag7 (D6 a)=ag7 (D6 b):=by rw [h]
 exact this
theorem be6 {a b:ByteArray}:bj5 a b=0↔a=b:=by
 unfold bj5
 rcases aP4 (D6 a) (D6 b) with ⟨h1,h2⟩ | ⟨h1,h2⟩ | ⟨h1,h2⟩
 ·rw [h1]; exact ⟨fun h=>by omega,fun h=>by subst h; exact (bk0 _ h2).elim⟩
 ·rw [h1]; exact ⟨fun _=>aZ8 h2,fun _=>rfl⟩
 ·rw [h1]; exact ⟨fun h=>by omega,fun h=>by subst h; exact (bk0 _ h2).elim⟩
def aD9 (a b:TAct):Int:=bif cI a.At b.At != 0 then cI a.At b.At else bif bj5 a.Site b.Site != 0 then bj5 a.Site b.Site else cI a.No b.No
theorem bj2 (a b:TAct):af7 a b=some (aD9 a b):=by
 unfold af7
 rw [aU2,Option.bind_some,show D9 a.Site b.Site=some (bj5 a.Site b.Site) from rfl,Option.bind_some,aU2,Option.bind_some]
 unfold W0 aD9
 rw [o5]
 unfold aj1
 cases h1:(cI a.At b.At != 0)
 ·rw [j4,Option.bind_some,D8,o5]
  cases h2:(bj5 a.Site b.Site != 0)
  ·rw [j4,Option.bind_some,D8,o5]
   cases h3:(cI a.No b.No != 0)
   ·have:cI a.No b.No=0:=by simpa using h3
    simp [this]
   ·simp
  ·simp
 ·simp
def small (a:TAct):Prop:=-4000000000000000000≤a.At∧a.At≤4000000000000000000 ∧ -4000000000000000000≤a.No∧a.No≤4000000000000000000
theorem aX4 {a b:Int} (h:-9000000000000000000≤a - b) (h':a - b≤9000000000000000000):L1 (w64 (a - b))=some (cI a b):=by
 rw [A0 (by omega)]
 unfold L1 cI
 by_cases h1:a<b
 ·rw [decide_eq_true (show a - b<0 by omega),decide_eq_true h1]; rfl
 ·rw [decide_eq_false (show ¬ a - b<0 by omega),decide_eq_false h1]
  by_cases h2:a>b
  ·rw [decide_eq_true (show a - b>0 by omega),decide_eq_true h2]; rfl
  ·rw [decide_eq_false (show ¬ a - b>0 by omega),decide_eq_false h2]; rfl
theorem bc4 {a b:TAct} (ha:small a) (hb:small b):v7 a b=some (aD9 a b):=by
 unfold small at ha hb
 unfold v7 aD9
 rw [aX4 (a:=a.At) (b:=b.At) (by omega) (by omega),aX4 (a:=a.No) (b:=b.No) (by omega) (by omega),show D9 a.Site b.Site=some (bj5 a.Site b.Site) from rfl]
 simp only [Option.bind_some]
 by_cases h1:a.At=b.At
 ·have e1:cI a.At b.At=0:=by8.2 h1
  rw [show (a.At != b.At)=false by simpa using h1,j4,e1]
  by_cases h2:a.Site=b.Site
  ·have e2:bj5 a.Site b.Site=0:=be6.2 h2
   rw [show (!(a.Site.toList==b.Site.toList))=false by rw [h2]; simp,j4,e2]; rfl
  ·have e2:(bj5 a.Site b.Site != 0)=true:=by simpa [be6] using h2
   rw [show (!(a.Site.toList==b.Site.toList))=true by
    rw [Bool.not_eq_true',Bool.eq_false_iff]; intro e; exact h2 (ad5.1 (by simpa using e)),j9,e2]; rfl
 ·have e1:(cI a.At b.At != 0)=true:=by simpa [by8] using h1
  rw [show (a.At != b.At)=true by simpa using h1,j9,e1]; rfl
theorem aP7 {x:TAct} (h:ai1 x=0):T5 x.Site=true∧(1≤x.No∧x.No≤1000000)∧(0≤x.At∧x.At≤345686399999)∧(1≤x.Kind∧x.Kind≤7):=by
 unfold ai1 at h
 cases h1:T5 x.Site
 ·rw [h1] at h; cases h
 cases h2:inR x.No 1 1000000
 ·rw [h1,h2] at h; cases h
 cases h3:an7 x.At
 ·rw [h1,h2,h3] at h; cases h
 cases h4:inR x.Kind 1 7
 ·rw [h1,h2,h3,h4] at h; cases h
 exact ⟨rfl,of_decide_eq_true h2,of_decide_eq_true h3,of_decide_eq_true h4⟩
theorem bm6 {x:TAct} (h:ai1 x=0):small x:=by
 obtain ⟨-,h1,h2,-⟩:=aP7 h
 unfold small; omega
def f1:Option TAct→List TAct→Int
 | _,[]=>0
 | p,x::t=>bif ai1 x != 0 then ai1 x else bif (match p with | none=>false | some y=>decide (aD9 y x≥0)) then 7 else f1 (some x) t
def own (x:TAct):Tclub_own:=⟨x.Site,x.No⟩
def f2:List Tclub_own→List TAct→Int
 | _,[]=>0
 | s,x::t=>bif decide (own x∈s) then 6 else f2 (s++[own x]) t
def ae6 (l:List TAct):Int:=bif decide (l.length>2000) then 2 else bif f1 none l != 0 then f1 none l else f2 [] l
def as4 (l:List TAct) (i:Nat):Option TAct:=if i=0 then none else l[i - 1]?
def bA7 (p:Option TAct) (x:TAct):Flow Unit Int:=bif ai1 x != 0 then .ret (ai1 x) else bif (match p with | none=>false | some y=>decide (aD9 y x≥0)) then .ret 7 else .nxt ()
theorem bQ3 (l:List TAct) (step:Nat→TAct→Unit→Option (Flow Unit Int)) (h:∀ (i:Nat) x,l[i]? = some x→(∀ y,as4 l i=some y→ai1 y=0)→step i x ()=some (bA7 (as4 l i) x)) :
  ∀ (t:List TAct) (i:Nat),l.drop i=t→(∀ y,as4 l i=some y→ai1 y=0)→l8 step i t ()=some (bif f1 (as4 l i) t==0 then .brk () else .ret (f1 (as4 l i) t)):=by
 intro t
 induction t with
 | nil=>intro i _ _; rfl
 | cons x t ih =>
  intro i hd hp
  have hx:l[i]? = some x:=by
   have:(l.drop i)[0]? = some x:=by rw [hd]; rfl
   simpa using this
  have hd':l.drop (i+1)=t:=by rw [← List.drop_drop,hd]; rfl
  have hp':as4 l (i+1)=some x:=by unfold as4; rw [if_neg (by omega)]; simpa using hx
  rw [o5,h i x hx hp]
  unfold bA7 f1
  cases h1:(ai1 x != 0)
  ·have h0:ai1 x=0:=by simpa using h1
   cases h2:(match as4 l i with | none=>false | some y=>decide (aD9 y x≥0))
   ·simp only [cond_false,Option.bind_some,D8]
    rw [ih (i+1) hd' (fun y hy=>by rw [hp'] at hy; cases hy; exact h0),hp']
   ·simp
  ·have h3:(ai1 x==0)=false:=by simpa [bne] using h1
   simp [h3]
theorem bn7 {l:List TAct} {i:Nat} {x:TAct} (hx:l[i]? = some x) (h0:i≠0) (hl:l.length≤2000):∃ y,as4 l i=some y∧v8 l (w64 ((i:Int) - 1))=some y:=by
 have hi:=(List.getElem?_eq_some_iff.1 hx).1
 have h1:l[i - 1]? = some (l[i - 1]'(by omega)):=List.getElem?_eq_getElem (by omega)
 refine ⟨_,by unfold as4; rw [if_neg h0]; exact h1,?_⟩
 rw [A0 (by omega)]
 exact Y6 (by omega) h1
theorem bO5 (l:List TAct) (hl:l.length≤2000) (i:Nat) (x:TAct) (hx:l[i]? = some x):ai0 l i x ()=some (bA7 (as4 l i) x):=by
 unfold ai0 bA7
 rw [bp2,Option.bind_some]
 cases h1:(ai1 x != 0)
 ·rw [j4,cond_false]
  by_cases h0:i=0
  ·subst h0; rfl
  ·obtain ⟨y,hy,hg⟩:=bn7 hx h0 hl
   rw [decide_eq_true (show (i:Int)>0 by omega),j9,hg,Option.bind_some,bj2,Option.bind_some,hy]
   simp only
   cases decide (aD9 y x≥0) <;> rfl
 ·rfl
theorem bN5 (l:List TAct) (hl:l.length≤2000) (i:Nat) (x:TAct) (hx:l[i]? = some x) (hp:∀ y,as4 l i=some y→ai1 y=0):ab4 l i x ()=some (bA7 (as4 l i) x):=by
 unfold ab4 bA7
 rw [bc5,Option.bind_some]
 cases h1:(ai1 x != 0)
 ·have hx0:ai1 x=0:=by simpa using h1
  rw [j4,cond_false]
  by_cases h0:i=0
  ·subst h0; rfl
  ·obtain ⟨y,hy,hg⟩:=bn7 hx h0 hl
   rw [decide_eq_true (show (i:Int)>0 by omega),j9,hg,Option.bind_some,bc4 (bm6 (hp y hy)) (bm6 hx0),Option.bind_some,hy]
   simp only
   cases decide (aD9 y x≥0) <;> rfl
 ·rfl
theorem bO4:∀ (t:List TAct) (i:Nat) (s:List Tclub_own) (u:List (Tclub_own × Bool)),(∀ k,(lkM u k).getD false=decide (k∈s)) →
  ∃ u',l8 ah9 i t u=some (bif f2 s t==0 then .brk u' else .ret (f2 s t)):=by
 intro t
 induction t with
 | nil=>intro i s u _; exact ⟨u,rfl⟩
 | cons x t ih =>
  intro i s u hu
  rw [o5]
  unfold ah9 f2
  rw [show (Tclub_own.mk x.Site x.No)=own x from rfl,hu]
  cases h:decide (own x∈s)
  ·obtain ⟨u',h1⟩:=ih (i+1) (s++[own x]) (q9 u (own x) true) (fun k=>by
    rw [aO0]
    by_cases hk:k=own x
    ·rw [if_pos hk]; simp [hk]
    ·rw [if_neg hk,hu]; simp [hk])
   exact ⟨u',by rw [j4,Option.bind_some,D8]; exact h1⟩
  ·exact ⟨u,by simp⟩
theorem bo0 (a b:TAct):Z0 a b=some (decide (own a=own b)):=by
 unfold Z0 own
 by_cases h:a.Site=b.Site
 ·rw [show (a.Site.toList==b.Site.toList)=true by rw [h]; simp,j9]
  congr 1
  rw [Bool.eq_iff_iff]; simp [h]
 ·rw [show (a.Site.toList==b.Site.toList)=false by
   rw [Bool.eq_false_iff]; intro e; exact h (ad5.1 (by simpa using e)),j4]
  simp [h]
theorem bN4 (l:List TAct):∀ (t:List TAct) (i:Nat),l.drop i=t→l8 (S8 l) i t ()=some (bif f2 ((l.take i).map own) t==0 then .brk () else .ret (f2 ((l.take i).map own) t)):=by
 intro t
 induction t with
 | nil=>intro i _; rfl
 | cons x t ih =>
  intro i hd
  have hx:l[i]? = some x:=by
   have:(l.drop i)[0]? = some x:=by rw [hd]; rfl
   simpa using this
  have hi:=(List.getElem?_eq_some_iff.1 hx).1
  have hd':l.drop (i+1)=t:=by rw [← List.drop_drop,hd]; rfl
  have hs:aE1 l 0 (i:Int)=some (l.take i):=(bA0 (a:=0) (b:=i) rfl rfl (by omega) (by omega)).trans (by simp)
  have e1:r6 (l.take i) x.Site x.No x.At x.Kind x.Who x.Motion x.Cents x.Yes x.Of x.Other=ixM (fun y=>N1 y x.Site x.No x.At x.Kind x.Who x.Motion x.Cents x.Yes x.Of x.Other) (l.take i):=rfl
  have e2:((List.take i l).any fun y=>decide (own y=own x))=decide (own x∈(l.take i).map own):=by
   rw [Bool.eq_iff_iff,List.any_eq_true,decide_eq_true_eq,List.mem_map]
   exact ⟨fun ⟨y,h1,h2⟩=>⟨y,h1,of_decide_eq_true h2⟩,fun ⟨y,h1,h2⟩=>⟨y,h1,decide_eq_true h2⟩⟩
  have hstep:S8 l i x ()=some (bif decide (own x∈(l.take i).map own) then .ret 6 else .nxt ()):=by
   unfold S8 p8
   rw [hs,Option.bind_some,e1,bQ4 _ (fun y=>decide (own y=own x)) _ (fun y _=>by unfold N1; rw [bo0]; rfl),Option.bind_some,e2]
   cases decide (own x∈(l.take i).map own) <;> rfl
  rw [o5,hstep,Option.bind_some]
  unfold f2
  cases h:decide (own x∈(l.take i).map own)
  ·rw [cond_false,D8,ih (i+1) hd',List.take_add_one,hx]
   simp
  ·simp
theorem bG6 (e:Int) (k:Option Int):(Flow.fin (bif e==0 then (.brk ():Flow Unit Int) else .ret e) fun _=>k)=bif e != 0 then some e else k:=by
 cases h:(e==0)
 ·simp [bne,h]
 ·simp [bne,h]
theorem au1 (l:List TAct):W9 l=some (ae6 l):=by
 unfold W9 ae6
 by_cases hl:l.length>2000
 ·rw [decide_eq_true hl,decide_eq_true (show (l.length:Int)>2000 by omega)]; rfl
 ·rw [decide_eq_false hl,decide_eq_false (show ¬ (l.length:Int)>2000 by omega),j4,cond_false]
  rw [bQ3 l _ (fun i x hx _=>bO5 l (by omega) i x hx) l 0 rfl (fun y hy=>by cases hy),Option.bind_some,bG6]
  rw [show as4 l 0=none from rfl]
  cases (f1 none l != 0)
  ·obtain ⟨u',h⟩:=bO4 l 0 [] [] (fun k=>by simp [lkM])
   rw [cond_false,cond_false,h]
   cases h2:(f2 [] l==0)
   ·rfl
   ·rw [cond_true,Option.bind_some,D5,show f2 [] l=0 by simpa using h2]
  ·rfl
theorem aG6 (l:List TAct):M0 l=some (ae6 l):=by
 unfold M0 ae6
 by_cases hl:l.length>2000
 ·rw [decide_eq_true hl,decide_eq_true (show (l.length:Int)>2000 by omega)]; rfl
 ·rw [decide_eq_false hl,decide_eq_false (show ¬ (l.length:Int)>2000 by omega),j4,cond_false]
  rw [bQ3 l _ (fun i x hx hp=>bN5 l (by omega) i x hx hp) l 0 rfl (fun y hy=>by cases hy),Option.bind_some,bG6]
  rw [show as4 l 0=none from rfl]
  cases (f1 none l != 0)
  ·rw [cond_false,cond_false,bN4 l l 0 rfl]
   rw [Option.bind_some,bG6]
   cases h2:(f2 [] l != 0)
   ·simp only [List.take_zero,List.map_nil,h2,cond_false]
    rw [show f2 [] l=0 by simpa using h2]
   ·simp only [List.take_zero,List.map_nil,h2,cond_true]
  ·rfl
structure ActsOK (l:List TAct):Prop where
 len:l.length≤2000
 ok:∀ x∈l,ai1 x=0
 ord:∀ (i:Nat) x y,l[i]? = some x→l[i+1]? = some y→aD9 x y<0
 nd:(l.map own).Nodup
theorem by0:∀ (t:List TAct) (p:Option TAct),f1 p t=0↔(∀ x∈t,ai1 x=0)∧(∀ y x,p=some y→t[0]? = some x→aD9 y x<0)∧∀ (i:Nat) x y,t[i]? = some x→t[i+1]? = some y→aD9 x y<0:=by
 intro t
 induction t with
 | nil=>intro p; simp [f1]
 | cons z t ih =>
  intro p
  unfold f1
  by_cases h1:ai1 z=0
  ·rw [show (ai1 z != 0)=false by simpa using h1,cond_false]
   have key:((match p with | none=>false | some y=>decide (aD9 y z≥0))=false)↔∀ y,p=some y→aD9 y z<0:=by
    cases p with
    | none=>simp
    | some y=>simp
   cases h2:(match p with | none=>false | some y=>decide (aD9 y z≥0))
   ·have h3:=key.1 h2
    rw [cond_false,ih]
    constructor
    ·rintro ⟨a,b,c⟩
     refine ⟨fun x hx=>?_,fun y x hy hx=>?_,fun i x y hx hy=>?_⟩
     ·rcases List.mem_cons.1 hx with rfl | hx
      ·exact h1
      ·exact a x hx
     ·simp at hx; subst hx; exact h3 y hy
     ·cases i with
      | zero=>simp at hx; subst hx; exact b z y rfl (by simpa using hy)
      | succ i=>exact c i x y (by simpa using hx) (by simpa using hy)
    ·rintro ⟨a,b,c⟩
     refine ⟨fun x hx=>a x (List.mem_cons_of_mem _ hx),fun y x hy hx=>?_,fun i x y hx hy=>c (i+1) x y (by simpa using hx) (by simpa using hy)⟩
     cases hy
     exact c 0 z x rfl (by simpa using hx)
   ·rw [cond_true]
    constructor
    ·intro h; cases h
    ·rintro ⟨a,b,c⟩
     have:=key.2 fun y hy=>b y z hy rfl
     rw [h2] at this; cases this
  ·rw [show (ai1 z != 0)=true by simpa using h1,cond_true]
   exact ⟨fun h=>(h1 h).elim,fun h=>h.1 z (List.mem_cons_self ..)⟩
theorem bN6:∀ (t:List TAct) (s:List Tclub_own),f2 s t=0↔(t.map own).Nodup∧∀ x∈t,own x∉s:=by
 intro t
 induction t with
 | nil=>intro s; simp [f2]
 | cons z t ih =>
  intro s
  unfold f2
  by_cases h1:own z∈s
  ·rw [decide_eq_true h1,cond_true]
   exact Iff.intro (fun h=>by cases h) (fun h=>(h.2 z (List.mem_cons_self ..) h1).elim)
  ·rw [decide_eq_false h1,cond_false,ih,List.map_cons,List.nodup_cons]
   constructor
   ·rintro ⟨a,b⟩
    refine ⟨⟨fun h=>?_,a⟩,fun x hx=>?_⟩
    ·obtain ⟨x,hx,e⟩:=List.mem_map.1 h
     exact b x hx (by rw [e]; simp)
    ·rcases List.mem_cons.1 hx with rfl | hx
     ·exact h1
     ·exact fun h=>b x hx (List.mem_append_left _ h)
   ·rintro ⟨⟨a,a'⟩,b⟩
    refine ⟨a',fun x hx h=>?_⟩
    rcases List.mem_append.1 h with h | h
    ·exact b x (List.mem_cons_of_mem _ hx) h
    ·simp at h
     exact a (List.mem_map.2 ⟨x,hx,h⟩)
theorem aB4 (l:List TAct):ae6 l=0↔ActsOK l:=by
 unfold ae6
 by_cases hl:l.length>2000
 ·rw [decide_eq_true hl,cond_true]
  exact Iff.intro (fun h=>by cases h) (fun h=>by have:=h.len; omega)
 ·rw [decide_eq_false hl,cond_false]
  by_cases h1:f1 none l=0
  ·rw [show (f1 none l != 0)=false by simpa using h1,cond_false,bN6]
   obtain ⟨a,-,c⟩:=(by0 l none).1 h1
   exact ⟨fun h=>⟨by omega,a,c,h.1⟩,fun h=>⟨h.nd,by simp⟩⟩
  ·rw [show (f1 none l != 0)=true by simpa using h1,cond_true]
   exact ⟨fun h=>(h1 h).elim,fun h=>(h1 ((by0 l none).2 ⟨h.ok,by simp,h.ord⟩)).elim⟩
end Go.G

/- LY3a: which acts count, as the program finds it. In plain Lean, no program in sight. -/
namespace Go.G
open Go Go.J
set_option linter.unusedSimpArgs false
theorem bc2 (xs:List Int) (hl:xs.length≤1000000):K6 xs=some xs.reverse:=by
 unfold K6
 rw [A0 (by omega)]
 obtain ⟨f,h1,h2⟩:=aA6 V5
  (fun s=>∃ i:Nat,s.1=i∧s.2.1=(xs.length:Int) - 1 - i∧i≤xs.length∧s.2.2.length=xs.length∧∀ k,k<xs.length→s.2.2[k]? = if k<i∨xs.length<k+i+1 then xs[xs.length - 1 - k]? else xs[k]?)
  (fun s=>xs.length - s.1.toNat) (fun f=>∃ a b,f = .brk (a,b,xs.reverse)) (by
   rintro ⟨i',j',ys⟩ ⟨i,rfl,rfl,hi,hys,hk⟩
   simp only at hys hk
   unfold V5
   by_cases hlt:(i:Int)<(xs.length:Int) - 1 - i
   ·left
    have hjn:(xs.length:Int) - 1 - i=((xs.length - 1 - i:Nat):Int):=by omega
    have g1:v8 ys (i:Int)=some (ys[i]'(by omega)):=Y6 (n:=i) rfl (List.getElem?_eq_getElem (by omega))
    have g2:v8 ys ((xs.length - 1 - i:Nat):Int)=some (ys[xs.length - 1 - i]'(by omega)):=Y6 rfl (List.getElem?_eq_getElem (by omega))
    have g3:∃ z,v8 (ys.set i (ys[xs.length - 1 - i]'(by omega))) ((xs.length - 1 - i:Nat):Int)=some z:=⟨_,Y6 rfl (List.getElem?_eq_getElem (by simp; omega))⟩
    obtain ⟨z,g3⟩:=g3
    have hlt':(i:Int)<((xs.length - 1 - i:Nat):Int):=by omega
    simp only [hjn,decide_eq_true hlt',j9,g1,g2,Option.bind_some,Int.toNat_natCast,g3]
    refine ⟨_,rfl,⟨i+1,by rw [A0 (by omega)]; rfl,by simp only; rw [A0 (by omega)]; omega,by omega,by simp [hys],?_⟩,by simp only; rw [A0 (by omega)]; omega⟩
    intro k hkl
    have a1:=hk i (by omega)
    have a2:=hk (xs.length - 1 - i) (by omega)
    rw [if_neg (by omega)] at a1 a2
    have b1:ys[i]'(by omega)=xs[i]'(by omega):=by
     rw [List.getElem?_eq_getElem (by omega),List.getElem?_eq_getElem (by omega)] at a1
     exact Option.some.inj a1
    have b2:ys[xs.length - 1 - i]'(by omega)=xs[xs.length - 1 - i]'(by omega):=by
     rw [List.getElem?_eq_getElem (by omega),List.getElem?_eq_getElem (by omega)] at a2
     exact Option.some.inj a2
    simp only [List.getElem?_set]
    by_cases c1:xs.length - 1 - i=k
    ·subst c1
     rw [if_pos rfl,if_pos (by simp; omega),if_pos (by omega),b1]
     have:xs.length - 1 - (xs.length - 1 - i)=i:=by omega
     rw [this,List.getElem?_eq_getElem (by omega)]
    ·rw [if_neg c1]
     by_cases c2:i=k
     ·subst c2
      rw [if_pos rfl,if_pos (by omega),if_pos (by omega),b2,List.getElem?_eq_getElem (by omega)]
     ·rw [if_neg c2,hk k hkl]
      by_cases c3:k<i∨xs.length<k+i+1
      ·rw [if_pos c3,if_pos (by omega)]
      ·rw [if_neg c3,if_neg (by omega)]
   ·right; left
    simp only [decide_eq_false hlt,j4]
    refine ⟨_,rfl,_,_,congrArg Flow.brk (Prod.ext rfl (Prod.ext rfl ?_))⟩
    apply List.ext_getElem?
    intro k
    by_cases hkl:k<xs.length
    ·rw [hk k hkl,List.getElem?_reverse hkl]
     split
     ·rfl
     ·have:xs.length - 1 - k=k:=by omega
      rw [this]
    ·rw [List.getElem?_eq_none (by simp only; omega),List.getElem?_eq_none (by simp; omega)]) (0,(xs.length:Int) - 1,xs) ⟨0,rfl,by simp,Nat.zero_le _,rfl,fun k hk=>by rw [if_neg (by omega)]⟩
 obtain ⟨a,b,rfl⟩:=h2
 rw [h1]; rfl
theorem br9 {α σ ρ : Type} (step:Nat → α → σ → Option (Flow σ ρ)) (xs:List α) (I:List α → σ → Prop)
  (h:∀ pre x t s,xs=pre++x::t→I t s→∃ s',step pre.length x s=some (.nxt s')∧I (x::t) s') (s : σ) (h0:I [] s):∃ s',bf9 step xs s=some (.brk s')∧I xs s':=by
 obtain ⟨s',h1,h2⟩:=Q8 (fun j x s=>step (xs.length - 1 - j) x s) xs.reverse (fun j s=>I (xs.drop (xs.length - j)) s) (by
  intro j x s hx hI
  have hj:j<xs.length:=by simpa using (List.getElem?_eq_some_iff.1 hx).1
  have e1:xs[xs.length - 1 - j]? = some x:=by rw [← hx,List.getElem?_reverse hj]
  have e2:xs=xs.take (xs.length - 1 - j)++x::xs.drop (xs.length - j):=by
   have:=List.take_append_drop (xs.length - 1 - j) xs
   conv=>lhs; rw [← this]
   congr 1
   obtain ⟨hk,e⟩:=List.getElem?_eq_some_iff.1 e1
   rw [List.drop_eq_getElem_cons hk,e,show xs.length - 1 - j+1=xs.length - j by omega]
  have e3:(xs.take (xs.length - 1 - j)).length=xs.length - 1 - j:=by simp; omega
  obtain ⟨s',g1,g2⟩:=h _ x _ s e2 hI
  refine ⟨s',by rw [e3] at g1; exact g1,?_⟩
  have e4:xs.drop (xs.length - (j+1))=x::xs.drop (xs.length - j):=by
   obtain ⟨hk,e⟩:=List.getElem?_eq_some_iff.1 e1
   rw [show xs.length - (j+1)=xs.length - 1 - j by omega,List.drop_eq_getElem_cons hk,e,show xs.length - 1 - j+1=xs.length - j by omega]
  rw [e4]; exact g2) s (by simpa using h0)
 exact ⟨s',h1,by simpa using h2⟩
def und (at_:Int):List TAct→Tclub_own→Bool
 | [],_=>false
 | x::t,k=>und at_ t k||(decide (x.At≤at_) && !und at_ t (own x)&&(x.Kind==7)&&decide (k=⟨x.Of,x.Other⟩))
def cnt (at_:Int) (x:TAct) (t:List TAct):Bool:=decide (x.At≤at_) && !und at_ t (own x)
def W7 (at_:Int):Nat→List TAct→List Int
 | _,[]=>[]
 | i,x::t=>(bif cnt at_ x t then [(i:Int)] else [])++W7 at_ (i+1) t
theorem as2 (at_:Int) (x:TAct) (t:List TAct) (k:Tclub_own):und at_ (x::t) k=(und at_ t k||(cnt at_ x t&&((x.Kind==7)&&decide (k=⟨x.Of,x.Other⟩)))):=by
 rw [und]; unfold cnt; rw [Bool.and_assoc (decide (x.At≤at_) && !und at_ t (own x))]
theorem an9 (at_:Int):∀ (t:List TAct) (i:Nat),(W7 at_ i t).length≤t.length:=by
 intro t
 induction t with
 | nil=>intro i; simp [W7]
 | cons x t ih =>
  intro i
  have:=ih (i+1)
  unfold W7
  cases cnt at_ x t <;> simp <;> omega
theorem aS1 (at_:Int):∀ (t:List TAct) (i:Nat) (z:Int),z∈W7 at_ i t→∃ j:Nat,z=(i+j:Nat)∧j<t.length:=by
 intro t
 induction t with
 | nil=>intro i z hz; cases hz
 | cons x t ih =>
  intro i z hz
  unfold W7 at hz
  rcases List.mem_append.1 hz with h | h
  ·cases hc:cnt at_ x t
   ·rw [hc] at h; cases h
   ·rw [hc] at h
    simp at h
    exact ⟨0,by simpa using h,by simp⟩
  ·obtain ⟨j,rfl,hj⟩:=ih (i+1) z h
   exact ⟨j+1,by congr 1; omega,by simp; omega⟩
theorem bb8 (l:List TAct) (at_:Int) (hl:l.length≤100000):ad0 l at_=some (W7 at_ 0 l):=by
 unfold ad0
 obtain ⟨s,h1,h2,h3⟩:=br9 (ak0 at_) l (fun t s=>(∀ k,(lkM s.1 k).getD false=und at_ t k)∧s.2=(W7 at_ (l.length - t.length) t).reverse) (by
  rintro pre x t ⟨u,v⟩ hx ⟨hu,hv⟩
  simp only at hu hv
  have hlen:pre.length+(t.length+1)=l.length:=by rw [hx]; simp
  have e0:l.length - t.length=pre.length+1:=by omega
  have e1:l.length - (x::t).length=pre.length:=by simp; omega
  have hv':v.length≤t.length:=by rw [hv,List.length_reverse]; exact an9 _ _ _
  unfold ak0
  have e2:(ifB (decide (x.At>at_)) (some (.inl true)) (some (.inl ((lkM u (Tclub_own.mk x.Site x.No)).getD false))):Option (Bool ⊕ (Flow ((List (Tclub_own × Bool)) × (List Int)) (List Int))))=some (.inl (!cnt at_ x t)):=by
   rw [show Tclub_own.mk x.Site x.No=own x from rfl,hu]
   unfold cnt
   by_cases h:x.At>at_
   ·rw [decide_eq_true h,decide_eq_false (show ¬ x.At≤at_ by omega)]; rfl
   ·rw [decide_eq_false h,decide_eq_true (show x.At≤at_ by omega)]; simp
  rw [e2,Option.bind_some,C9,e1]
  rw [e0] at hv
  cases hc:cnt at_ x t
  ·simp only [Bool.not_false,j9]
   refine ⟨_,rfl,fun k=>by rw [as2,hc,hu]; simp,?_⟩
   simp only [W7,hc,cond_false,List.nil_append]; exact hv
  ·rw [Bool.not_true,j4,Q7 (by simp; omega) (by omega),Option.bind_some]
   have e3:v++[(pre.length:Int)]=(W7 at_ pre.length (x::t)).reverse:=by
    simp only [W7,hc,cond_true]; rw [List.reverse_append,← hv]; rfl
   cases h7:(x.Kind==7)
   ·rw [j4]
    exact ⟨_,rfl,fun k=>by rw [as2,hc,hu,h7]; simp,e3⟩
   ·rw [j9]
    refine ⟨_,rfl,fun k=>?_,e3⟩
    simp only
    rw [as2,hc,h7,aO0]
    by_cases hk:k=⟨x.Of,x.Other⟩
    ·rw [if_pos hk]; simp [hk]
    ·rw [if_neg hk,hu]; simp [hk]) ([],[]) ⟨fun k=>by simp [lkM,und],by simp [W7]⟩
 rw [h1,Option.bind_some,D5,h3]
 have hlen:=an9 at_ l 0
 rw [Nat.sub_self,bc2 _ (by simp; omega),Option.bind_some,List.reverse_reverse]
end Go.G

/- LY4: the books of a club, as the program keeps them. In plain Lean, no program in sight. -/
namespace Go.G
open Go Go.J
set_option linter.unusedSimpArgs false
set_option linter.unusedVariables false
abbrev ab7:=List (ByteArray × List Tclub_stay)
abbrev bv2:=Bool × List (ByteArray × Bool) × List ByteArray
abbrev aB6:=List (ByteArray × bv2)
structure Bk where
 st:ab7
 pd:List (ByteArray × Int)
 mo:aB6
 rf:List Int
def A5 (st:ab7) (k:ByteArray):List Tclub_stay:=(lkM st k).getD []
def am6 (st:ab7) (k:ByteArray):Bool:=match (A5 st k).getLast? with | some s=>decide (s.till<0) | none=>false
theorem aO1 {α : Type} {l:List α} (h:0<l.length) (hl:l.length≤1000000):∃ x,l.getLast? = some x∧v8 l (w64 ((l.length:Int) - 1))=some x∧(w64 ((l.length:Int) - 1)).toNat=l.length - 1:=by
 have h1:l[l.length - 1]? = some (l[l.length - 1]'(by omega)):=List.getElem?_eq_getElem (by omega)
 refine ⟨_,by rw [List.getLast?_eq_getElem?]; exact h1,?_,?_⟩
 ·rw [A0 (by omega)]; exact Y6 (by omega) h1
 ·rw [A0 (by omega)]; omega
theorem aw8 (a:Int) (st:ab7) (pd:List (ByteArray × Int)) (mo:aB6) (rf:List Int) (k:ByteArray) (h:(A5 st k).length≤1000000):B3 a st pd mo rf k=some (am6 st k):=by
 unfold B3 am6
 show ifB (decide (((A5 st k).length:Int)>0)) ((v8 (A5 st k) (w64 (((A5 st k).length:Int) - 1))).bind fun e1=>some (decide (e1.till<0))) (some false)=_
 by_cases h0:0<(A5 st k).length
 ·obtain ⟨x,e1,e2,-⟩:=aO1 h0 h
  rw [decide_eq_true (by omega),j9,e2,e1]; rfl
 ·have:A5 st k=[]:=List.eq_nil_of_length_eq_zero (by omega)
  rw [this]; rfl
def O0 (mo:aB6) (k:ByteArray):Bool:=match lkM mo k with | some t=>!t.1 | none=>false
theorem aT7 (a:Int) (st:ab7) (pd:List (ByteArray × Int)) (mo:aB6) (rf:List Int) (k:ByteArray):K2 a st pd mo rf k=some (O0 mo k):=by
 unfold K2 O0
 cases lkM mo k <;> rfl
noncomputable def ae1 (l:List ByteArray):List ByteArray:=((l.map D6).mergeSort fun x y=>decide (x≤y)).map ag7
theorem bk7 (l:List ByteArray) (h:l.length≤1000000000):o8 l=some (ae1 l):=by
 unfold o8 ae1
 rw [if_pos (by omega)]
theorem an0 (l:List ByteArray):(ae1 l).length=l.length:=by unfold ae1; simp
theorem aX3 (l:List ByteArray):(ae1 l).Perm l:=by
 unfold ae1
 have h:=(List.mergeSort_perm (l.map D6) fun x y=>decide (x≤y)).map ag7
 rw [List.map_map] at h
 exact h.trans (by rw [show (ag7 ∘ D6)=id from funext fun b=>rfl,List.map_id])
theorem aM4 {l l':List ByteArray} (hp:l'.Perm l) (p:ByteArray→Bool):ae1 (l'.filter p)=(ae1 l).filter p:=by
 have e1:(ae1 l).filter p=(((l.map D6).mergeSort fun x y=>decide (x≤y)).filter (fun b=>p (ag7 b))).map ag7:=by
  unfold ae1; rw [List.filter_map]; rfl
 have e2:(l'.filter p).map D6=(l'.map D6).filter (fun b=>p (ag7 b)):=by
  rw [List.filter_map]; rfl
 rw [e1]
 unfold ae1
 rw [e2]
 congr 1
 refine List.Perm.eq_of_pairwise (fun x y _ _ h1 h2=>?_) (aM3 _) ((aM3 _).filter _) ?_
 ·rcases bj9 x y with h3 | h3 | h3
  ·exact (h2 h3).elim
  ·exact h3
  ·exact (h1 h3).elim
 ·exact (List.mergeSort_perm _ _).trans (((hp.map D6).filter _).trans ((List.mergeSort_perm _ _).symm.filter _))
noncomputable def H7 (st:ab7):List ByteArray:=(ae1 (st.map Prod.fst)).filter (am6 st)
theorem aA3 (a:Int) (st:ab7) (pd:List (ByteArray × Int)) (mo:aB6) (rf:List Int) (h:∀ k,(A5 st k).length≤1000000) (hl:st.length≤1000000):F7 a st pd mo rf=some (H7 st):=by
 unfold F7 m9
 rw [if_pos (by omega),bk7 _ (by simp; omega),Option.bind_some,ag5 _ (fun x=>if am6 st x then some x else none) _ (by
  intro i x s hx hs
  have hi:=(List.getElem?_eq_some_iff.1 hx).1
  rw [an0] at hi
  simp only [List.length_map] at hi
  unfold ak5
  rw [aw8 _ _ _ _ _ _ (h x),Option.bind_some]
  cases hm:am6 st x
  ·simp
  ·rw [j9,Q7 (by simp; omega) (by omega)]; simp),Option.bind_some,D5]
 unfold H7
 rw [← List.filterMap_eq_filter]
 congr 2
def perm (st:ab7) (mo:aB6) (x:TAct):Bool :=
 bif x.Kind==1 then !am6 st x.Who else bif x.Kind==2 then am6 st x.Who else bif x.Kind==4 then (lkM mo x.Motion).isNone else
 bif x.Kind==5 then am6 st x.Who&&O0 mo x.Motion else bif x.Kind==6 then O0 mo x.Motion else true
theorem bg0 (a:Int) (st:ab7) (pd:List (ByteArray × Int)) (mo:aB6) (rf:List Int) (x:TAct) (h:∀ k,(A5 st k).length≤1000000):R5 a st pd mo rf x=some (perm st mo x):=by
 unfold R5 perm
 rw [aw8 _ _ _ _ _ _ (h _),aT7]
 cases x.Kind==1 <;> cases x.Kind==2 <;> cases x.Kind==4 <;> cases x.Kind==5 <;> cases x.Kind==6 <;> cases am6 st x.Who <;> cases lkM mo x.Motion <;> rfl
def ao3 (l:List Tclub_stay) (at_:Int):List Tclub_stay:=match l.getLast? with | some s=>l.set (l.length - 1) ⟨s.since,at_,s.cents⟩ | none=>l
noncomputable def aP8 (st:ab7) (pd:List (ByteArray × Int)) (mo:aB6) (x:TAct):ab7 × List (ByteArray × Int) × aB6 :=
 bif x.Kind==1 then (q9 st x.Who (A5 st x.Who++[⟨x.At,-1,x.Cents⟩]),pd,mo) else
 bif x.Kind==2 then (q9 st x.Who (ao3 (A5 st x.Who) x.At),pd,mo) else
 bif x.Kind==3 then (st,q9 pd x.Who (w64 (((lkM pd x.Who).getD 0)+x.Cents)),mo) else
 bif x.Kind==4 then (st,pd,q9 mo x.Motion (false,[],[])) else
 match lkM mo x.Motion with
 | none=>(st,pd,mo)
 | some t=>bif x.Kind==5 then (st,pd,q9 mo x.Motion (t.1,q9 t.2.1 x.Who x.Yes,t.2.2)) else
  bif x.Kind==6 then (st,pd,q9 mo x.Motion (true,t.2.1,H7 st)) else (st,pd,mo)
theorem aN9 {st:ab7} {k:ByteArray} (h:am6 st k=true):∃ s,(A5 st k).getLast? = some s∧s.till<0∧G3 st k=true∧0<(A5 st k).length:=by
 unfold am6 at h
 cases hl:(A5 st k).getLast? with
 | none=>rw [hl] at h; cases h
 | some s =>
  rw [hl] at h
  refine ⟨s,rfl,by simpa using h,?_,?_⟩
  ·rw [av4]
   unfold A5 at hl
   cases h2:lkM st k with
   | none=>rw [h2] at hl; cases hl
   | some r=>rfl
  ·cases hr:A5 st k with
   | nil=>rw [hr] at hl; cases hl
   | cons=>simp
theorem as7 {mo:aB6} {k:ByteArray} (h:O0 mo k=true):∃ t,lkM mo k=some t∧t.1=false:=by
 unfold O0 at h
 cases hl:lkM mo k with
 | none=>rw [hl] at h; cases h
 | some t=>rw [hl] at h; exact ⟨t,rfl,by simpa using h⟩
theorem bJ4 (a:Int) (st:ab7) (pd:List (ByteArray × Int)) (mo:aB6) (rf:List Int) (x:TAct) (h:∀ k,(A5 st k).length≤1000000) (hl:st.length≤1000000) (hp:perm st mo x=true):ab6 a st pd mo rf x=some (aP8 st pd mo x):=by
 unfold ab6 aP8
 unfold perm at hp
 cases h1:x.Kind==1
 case true =>
  simp only [j9,cond_true]
  rw [show (lkM st x.Who).getD []=A5 st x.Who from rfl,Q7 (by have:=h x.Who; simp; omega) (by omega),Option.bind_some]
 simp only [j4,cond_false]
 cases h2:x.Kind==2
 case true =>
  simp only [h1,h2,cond_false,cond_true] at hp
  obtain ⟨s,e1,e2,e3,e4⟩:=aN9 hp
  obtain ⟨s',f1,f2,f3⟩:=aO1 e4 (h x.Who)
  rw [e1] at f1; cases f1
  simp only [j9,cond_true]
  rw [show (lkM st x.Who).getD []=A5 st x.Who from rfl,f2,Option.bind_some,f3,← ai3 e3]
  unfold ao3
  rw [e1]
 simp only [j4,cond_false]
 cases h3:x.Kind==3
 case true=>rfl
 simp only [j4,cond_false]
 cases h4:x.Kind==4
 case true=>rfl
 simp only [j4,cond_false]
 simp only [h1,h2,h4,cond_false] at hp
 cases h5:x.Kind==5
 case true =>
  simp only [h5,cond_true,Bool.and_eq_true] at hp
  obtain ⟨t,e1,e2⟩:=as7 hp.2
  simp only [j9,cond_true,e1,K4]
  rw [ai3 (aO4 e1)]
 simp only [h5,cond_false] at hp
 simp only [j4,cond_false]
 cases h6:x.Kind==6
 case true =>
  simp only [h6,cond_true] at hp
  obtain ⟨t,e1,e2⟩:=as7 hp
  simp only [j9,cond_true,e1,K4]
  rw [aA3 a st pd mo rf h hl,Option.bind_some,ai3 (aO4 e1)]
 simp only [j4,cond_false]
 cases lkM mo x.Motion <;> rfl
noncomputable def Y9 (s:Bk) (z:Int) (x:TAct):Bk :=
 if perm s.st s.mo x=true then ⟨(aP8 s.st s.pd s.mo x).1,(aP8 s.st s.pd s.mo x).2.1,(aP8 s.st s.pd s.mo x).2.2,s.rf⟩ else ⟨s.st,s.pd,s.mo,s.rf++[z]⟩
noncomputable def ab8 (l:List TAct) (s:Bk) (z:Int):Bk:=match l[z.toNat]? with | some x=>Y9 s z x | none=>s
noncomputable def j7 (l:List TAct) (at_:Int):Bk:=(W7 at_ 0 l).foldl (ab8 l) ⟨[],[],[],[]⟩
structure BOK (n:Nat) (s:Bk):Prop where
 row:∀ k,(A5 s.st k).length≤n
 len:s.st.length≤n
 rf:s.rf.length≤n
theorem ar8 (st:ab7) (k j:ByteArray) (r:List Tclub_stay):A5 (q9 st k r) j=if j=k then r else A5 st j:=by
 unfold A5
 rw [aO0]
 split <;> rfl
theorem aE5 {K V:Type} [DecidableEq K] (l:List (K × V)) (k:K) (v:V):(q9 l k v).length≤l.length+1:=by
 have:=congrArg List.length (aH0 l k v)
 rw [List.length_map] at this
 rw [this]
 split <;> simp
theorem bn4 (l:List Tclub_stay) (a:Int):(ao3 l a).length=l.length:=by unfold ao3; split <;> simp
theorem BOK.step {n:Nat} {s:Bk} (h:BOK n s) (z:Int) (x:TAct):BOK (n+1) (Y9 s z x):=by
 have hr:=h.row; have hl:=h.len; have hf:=h.rf
 unfold Y9
 split
 ·rename_i hp
  unfold aP8
  have base:BOK (n+1) ⟨s.st,s.pd,s.mo,s.rf⟩:=⟨fun k=>by have:=hr k; simp only; omega,by simp only; omega,by simp only; omega⟩
  have base2:∀ pd mo,BOK (n+1) ⟨s.st,pd,mo,s.rf⟩:=fun pd mo=>⟨fun k=>by have:=hr k; simp only; omega,by simp only; omega,by simp only; omega⟩
  cases h1:x.Kind==1
  case true =>
   simp only [cond_true]
   refine ⟨fun k=>?_,?_,by simp only; omega⟩
   ·rw [ar8]
    have:=hr k; have:=hr x.Who
    split
    ·simp; omega
    ·omega
   ·have:=aE5 s.st x.Who (A5 s.st x.Who++[⟨x.At,-1,x.Cents⟩]); simp only; omega
  simp only [cond_false]
  cases h2:x.Kind==2
  case true =>
   simp only [cond_true]
   refine ⟨fun k=>?_,?_,by simp only; omega⟩
   ·rw [ar8]
    have:=hr k; have:=hr x.Who
    split
    ·rw [bn4]; omega
    ·omega
   ·have:=aE5 s.st x.Who (ao3 (A5 s.st x.Who) x.At); simp only; omega
  simp only [cond_false]
  cases h3:x.Kind==3
  case true=>exact base2 _ _
  simp only [cond_false]
  cases h4:x.Kind==4
  case true=>exact base2 _ _
  simp only [cond_false]
  cases lkM s.mo x.Motion with
  | none=>exact base2 _ _
  | some t =>
   simp only
   cases h5:x.Kind==5
   ·cases h6:x.Kind==6
    ·exact base2 _ _
    ·exact base2 _ _
   ·exact base2 _ _
 ·exact ⟨fun k=>by have:=hr k; simp only; omega,by simp only; omega,by simp; omega⟩
theorem bW9 (l:List TAct) (at_:Int) (s:Bk) (i:Nat) (z:Nat) (x:TAct) (hx:l[z]? = some x) (n:Nat) (h:BOK n s) (hn:n≤100000) :
  ae3 l at_ i (z:Int) (s.mo,s.pd,s.st,s.rf)=some (.nxt ((Y9 s z x).mo,(Y9 s z x).pd,(Y9 s z x).st,(Y9 s z x).rf)):=by
 have hg:v8 l (z:Int)=some x:=Y6 rfl hx
 have hrow:∀ k,(A5 s.st k).length≤1000000:=fun k=>by have:=h.row k; omega
 have hlen:=h.len; have hf:=h.rf
 unfold ae3 Y9
 rw [hg,Option.bind_some,Option.bind_some,bg0 _ _ _ _ _ _ hrow,Option.bind_some]
 cases hp:perm s.st s.mo x
 ·rw [j4,Q7 (by simp; omega) (by omega),Option.bind_some]; simp
 ·rw [j9,bJ4 _ _ _ _ _ _ hrow (by omega) hp,Option.bind_some]; simp
theorem am3 (l:List TAct) (at_:Int) (hl:l.length≤2000):af8 l at_=some (at_,(j7 l at_).st,(j7 l at_).pd,(j7 l at_).mo,(j7 l at_).rf)∧BOK 2000 (j7 l at_):=by
 have hc:=an9 at_ l 0
 have key:∀ (t:List Int) (i:Nat) (s:Bk) (n:Nat),(∀ z∈t,∃ j:Nat,z=(j:Int)∧j<l.length)→BOK n s→n+t.length≤2000 →
   l8 (ae3 l at_) i t (s.mo,s.pd,s.st,s.rf)=some (.brk ((t.foldl (ab8 l) s).mo,(t.foldl (ab8 l) s).pd,(t.foldl (ab8 l) s).st,(t.foldl (ab8 l) s).rf))∧BOK (n+t.length) (t.foldl (ab8 l) s):=by
  intro t
  induction t with
  | nil=>intro i s n _ hb _; exact ⟨rfl,hb⟩
  | cons z t ih =>
   intro i s n hz hb hn
   simp only [List.length_cons] at hn
   obtain ⟨j,rfl,hj⟩:=hz z (List.mem_cons_self ..)
   have hx:l[j]? = some (l[j]'hj):=List.getElem?_eq_getElem hj
   have e1:ab8 l s (j:Int)=Y9 s j (l[j]'hj):=by unfold ab8; rw [Int.toNat_natCast,hx]
   obtain ⟨g1,g2⟩:=ih (i+1) (Y9 s j (l[j]'hj)) (n+1) (fun z hz'=>hz z (List.mem_cons_of_mem _ hz')) (hb.step _ _) (by omega)
   rw [o5,bW9 l at_ s i j _ hx n hb (by omega),Option.bind_some,D8,List.foldl_cons,e1]
   exact ⟨g1,by rw [List.length_cons,show n+(t.length+1)=n+1+t.length by omega]; exact g2⟩
 obtain ⟨g1,g2⟩:=key (W7 at_ 0 l) 0 ⟨[],[],[],[]⟩ 0 (fun z hz=>by
  obtain ⟨j,rfl,hj⟩:=aS1 at_ l 0 z hz
  exact ⟨0+j,rfl,by omega⟩) ⟨fun k=>by simp [A5,lkM],by simp,by simp⟩ (by omega)
 refine ⟨?_,?_⟩
 ·unfold af8
  rw [bb8 l at_ (by omega),Option.bind_some,g1]; rfl
 ·exact ⟨fun k=>Nat.le_trans (g2.row k) (by omega),Nat.le_trans g2.len (by omega),Nat.le_trans g2.rf (by omega)⟩
end Go.G

/- LY6: who is a member: what the program's club answers. In plain Lean, no program in sight. -/
namespace Go.G
open Go Go.J
set_option linter.unusedSimpArgs false
def aa2 (l:List TAct) (at_:Int):Int:=bif ae6 l != 0 then ae6 l else bif an7 at_ then 0 else 1
theorem ay9 {l:List TAct} {at_:Int} (h:aa2 l at_=0):ActsOK l∧an7 at_=true:=by
 unfold aa2 at h
 by_cases h1:ae6 l=0
 ·rw [show (ae6 l != 0)=false by simpa using h1,cond_false] at h
  cases h2:an7 at_
  ·rw [h2] at h; cases h
  ·exact ⟨(aB4 l).1 h1,rfl⟩
 ·rw [show (ae6 l != 0)=true by simpa using h1,cond_true] at h
  exact (h1 h).elim
theorem aj2 {l:List TAct} {at_:Int} (h:ActsOK l) (h2:an7 at_=true):aa2 l at_=0:=by
 unfold aa2
 rw [(aB4 l).2 h,h2]; rfl
theorem aV1 (l:List TAct) (at_:Int):Z9 l at_=some (aa2 l at_):=by
 unfold Z9 aa2
 rw [au1,Option.bind_some,ba7,Option.bind_some]
 cases (ae6 l != 0) <;> cases an7 at_ <;> rfl
abbrev BkT:=Int × ab7 × List (ByteArray × Int) × aB6 × List Int
noncomputable def ba0 (l:List TAct) (at_:Int):BkT:=(at_,(j7 l at_).st,(j7 l at_).pd,(j7 l at_).mo,(j7 l at_).rf)
theorem ag3 (l:List TAct) (at_:Int):J7 l at_=some (if aa2 l at_=0 then (some (ba0 l at_),0) else (none,aa2 l at_)):=by
 unfold J7
 rw [aV1,Option.bind_some]
 by_cases h:aa2 l at_=0
 ·rw [show (aa2 l at_ != 0)=false by simpa using h,j4,(am3 l at_ (ay9 h).1.len).1,Option.bind_some,if_pos h]; rfl
 ·rw [show (aa2 l at_ != 0)=true by simpa using h,j9,if_neg h]
theorem BOK.rows {n:Nat} {s:Bk} (h:BOK n s) (hn:n≤1000000) (k:ByteArray):(A5 s.st k).length≤1000000:=Nat.le_trans (h.row k) hn
theorem aQ0 (l:List TAct) (at_:Int):N5 l at_=some (if aa2 l at_=0 then (H7 (j7 l at_).st,0) else ([],aa2 l at_)):=by
 unfold N5
 rw [ag3,Option.bind_some]
 by_cases h:aa2 l at_=0
 ·obtain ⟨-,hb⟩:=am3 l at_ (ay9 h).1.len
  simp only [if_pos h,K4]
  rw [show ((0:Int) != 0)=false from rfl,j4]
  unfold ba0
  simp only
  rw [aA3 _ _ _ _ _ (hb.rows (by omega)) (Nat.le_trans hb.len (by omega))]; rfl
 ·simp only [if_neg h,ad4]
  rw [show (aa2 l at_ != 0)=true by simpa using h,j9]
def bk6:ByteArray:=ByteArray.mk [97,110,110].toArray
def bt1:TAct:=TAct.mk (ByteArray.mk [97].toArray) 1 0 1 bk6 ByteArray.empty 0 false ByteArray.empty 0
theorem bU8:ActsOK [bt1]:=by
 refine ⟨by simp,fun x hx=>?_,fun i x y hx hy=>?_,by simp⟩
 ·simp only [List.mem_singleton] at hx
  subst hx
  kernel_rfl
 ·simp at hy
theorem bz9 (a:ByteArray):ae1 [a]=[a]:=by
 unfold ae1
 rw [List.map_cons,List.map_nil,List.mergeSort_singleton]; rfl
theorem bt0:N5 [bt1] 0=some ([bk6],0):=by
 rw [aQ0,if_pos (aj2 bU8 (by kernel_rfl))]
 have h1:(j7 [bt1] 0).st=[(bk6,[⟨0,-1,0⟩])]:=by
  unfold j7
  rw [show W7 0 0 [bt1]=[(0:Int)] from rfl]
  simp only [List.foldl_cons,List.foldl_nil]
  rw [show ab8 [bt1] ⟨[],[],[],[]⟩ 0=Y9 ⟨[],[],[],[]⟩ 0 bt1 from rfl]
  unfold Y9
  rw [if_pos (show perm [] [] bt1=true from rfl)]
  rfl
 unfold H7
 rw [h1]
 simp only [List.map_cons,List.map_nil]
 rw [bz9]
 have:am6 [(bk6,[⟨0,-1,0⟩])] bk6=true:=by
  unfold am6 A5 lkM
  simp
 simp [this]
end Go.G

