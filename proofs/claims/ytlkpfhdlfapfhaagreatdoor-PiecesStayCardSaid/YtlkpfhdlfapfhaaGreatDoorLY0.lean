/- LY0: an act by itself, and which of two acts comes first: what the program's club and the reference find. In plain Lean, no program in sight. -/
import Derived.Test.YtlkpfhdlfapfhaaGreatDoorLKr
namespace Go.G
open Go Go.J
set_option linter.unusedSimpArgs false
def inR (n lo hi:Int):Bool:=decide (lo≤n∧n≤hi)
theorem Out_R (n lo hi:Int):m_kit_Outside n lo hi=some (!inR n lo hi):=Outside_spec n lo hi
def isAt (n:Int):Bool:=inR n 0 345686399999
theorem IsMoment_R (n:Int):m_kit_IsMoment n=some (isAt n):=by unfold m_kit_IsMoment; rw [Out_R]; simp [isAt]
def isE (s:ByteArray):Bool:=s.toList==ByteArray.empty.toList
def useWho (k:Int):Bool:=k==1||k==2||k==3||k==5
def useMot (k:Int):Bool:=k==4||k==5||k==6
def useCts (k:Int):Bool:=k==1||k==3
theorem usesOf_spec (k:Int):m_club_usesOf k=some ⟨useWho k,useMot k,useCts k,k==5,k==7⟩:=by
 by_cases h1:k=1
 ·subst h1; rfl
 by_cases h2:k=2
 ·subst h2; rfl
 by_cases h3:k=3
 ·subst h3; rfl
 by_cases h4:k=4
 ·subst h4; rfl
 by_cases h5:k=5
 ·subst h5; rfl
 by_cases h6:k=6
 ·subst h6; rfl
 have e1:(k==1)=false:=by simpa using h1
 have e2:(k==2)=false:=by simpa using h2
 have e3:(k==3)=false:=by simpa using h3
 have e4:(k==4)=false:=by simpa using h4
 have e5:(k==5)=false:=by simpa using h5
 have e6:(k==6)=false:=by simpa using h6
 unfold m_club_usesOf useWho useMot useCts
 simp only [e1,e2,e3,e4,e5,e6,ifB_false,Bool.or_false]
def actF (x:TAct):Int :=
 bif !isKey x.Site then 5 else bif !inR x.No 1 1000000 || !isAt x.At then 1 else bif !inR x.Kind 1 7 then 4 else
 bif (useWho x.Kind && !isKey x.Who)||(useMot x.Kind && !isKey x.Motion)||((x.Kind==7) && !isKey x.Of) then 5 else
 bif (useCts x.Kind && !inR x.Cents (bif x.Kind==3 then 1 else 0) 1000000000)||((x.Kind==7) && !inR x.Other 1 1000000) then 1 else
 bif (!useWho x.Kind && !isE x.Who)||(!useMot x.Kind && !isE x.Motion)||(!useCts x.Kind&&(x.Cents != 0))||(!(x.Kind==5)&&x.Yes)||(!(x.Kind==7)&&(!isE x.Of||(x.Other != 0))) then 3 else 0
theorem formed_spec (x:TAct):m_club_formed x=some (actF x):=by
 unfold m_club_formed actF
 simp only [isKey_prog,Out_R,IsMoment_R,usesOf_spec,Option.bind_some]
 have he:∀ s:ByteArray,(s.toList==ByteArray.empty.toList)=isE s:=fun _=>rfl
 simp only [he]
 generalize isKey x.Site=b1,inR x.No 1 1000000=b2,isAt x.At=b3,inR x.Kind 1 7=b4
 cases b1
 ·rfl
 cases b2
 ·rfl
 cases b3
 ·rfl
 cases b4
 ·rfl
 simp only [Bool.not_true,ifB_false,Option.bind_some,fin_inl,cond_false,Bool.or_false]
 rw [show (ifB (x.Kind==3) (some (.inl 1)) (some (.inl 0)):Option (Int ⊕ Int))=some (.inl (bif x.Kind==3 then 1 else 0)) by cases (x.Kind==3) <;> rfl]
 simp only [Option.bind_some,fin_inl]
 generalize useWho x.Kind=u1,useMot x.Kind=u2,useCts x.Kind=u3,(x.Kind==5)=u4,(x.Kind==7)=u5,inR x.Cents (bif x.Kind==3 then 1 else 0) 1000000000=c1,inR x.Other 1 1000000=c2,isKey x.Who=k1,isKey x.Motion=k2,isKey x.Of=k3,isE x.Who=e1,isE x.Motion=e2,isE x.Of=e3,(x.Cents != 0)=z1,(x.Other != 0)=z2,x.Yes=y
 have s1:((ifB u1 ((some k1).bind fun y17=>ifB (!y17) (some (.inl true)) (ifB u2 ((some k2).bind fun y18=>ifB (!y18) (some (.inl true)) (ifB u5 ((some k3).bind fun y19=>some (.inl (!y19))) (some (.inl false)))) (ifB u5 ((some k3).bind fun y20=>some (.inl (!y20))) (some (.inl false))))) (ifB u2 ((some k2).bind fun y21=>ifB (!y21) (some (.inl true)) (ifB u5 ((some k3).bind fun y22=>some (.inl (!y22))) (some (.inl false)))) (ifB u5 ((some k3).bind fun y23=>some (.inl (!y23))) (some (.inl false))))):Option (Bool ⊕ Int))=some (.inl ((u1 && !k1)||(u2 && !k2)||(u5 && !k3))):=by
  cases u1 <;> cases u2 <;> cases u5 <;> cases k1 <;> cases k2 <;> cases k3 <;> rfl
 simp only [Option.bind_some] at s1
 rw [s1,Option.bind_some,fin_inl]
 generalize ((u1 && !k1)||(u2 && !k2)||(u5 && !k3))=w1
 cases w1
 case true=>rfl
 simp only [ifB_false,cond_false]
 have s2:((ifB u3 (ifB (!c1) (some (.inl true)) (ifB u5 (some (.inl (!c2))) (some (.inl false)))) (ifB u5 (some (.inl (!c2))) (some (.inl false)))):Option (Bool ⊕ Int))=some (.inl ((u3 && !c1)||(u5 && !c2))):=by
  cases u3 <;> cases u5 <;> cases c1 <;> cases c2 <;> rfl
 rw [s2,Option.bind_some,fin_inl]
 generalize ((u3 && !c1)||(u5 && !c2))=w2
 cases w2
 case true=>rfl
 simp only [ifB_false,cond_false]
 cases u1 <;> cases u2 <;> cases u3 <;> cases u4 <;> cases u5 <;> cases e1 <;> cases e2 <;> cases e3 <;> cases z1 <;> cases z2 <;> cases y <;> rfl
end Go.G
