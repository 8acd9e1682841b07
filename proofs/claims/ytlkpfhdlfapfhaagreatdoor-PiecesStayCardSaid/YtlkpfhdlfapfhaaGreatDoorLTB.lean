/- LTB: the two checks of a piece's bars answer alike, in plain Lean. No program in sight. -/
import Derived.Test.YtlkpfhdlfapfhaaGreatDoorLTA
namespace Go.G
open Go Go.J
theorem IndexI_sp (xs:List Int) (a:Int):∃ r,m_slices_Index_int_int xs a=some r∧(r≥0↔a∈xs):=by
 have key:∀ (t:List Int) (i:Nat),(∃ n:Nat,rangeM (m_slices_Index_int_int_l1 a) i t ()=some (.ret (n:Int))∧a∈t)∨(rangeM (m_slices_Index_int_int_l1 a) i t ()=some (.brk ())∧a∉t):=by
  intro t
  induction t with
  | nil=>intro i; exact .inr ⟨rfl,by simp⟩
  | cons x t ih =>
   intro i
   by_cases h:a=x
   ·exact .inl ⟨i,by rw [rangeM_cons]; simp [m_slices_Index_int_int_l1,h],by simp [h]⟩
   ·have hb:(a==x)=false:=by simpa using h
    have e:m_slices_Index_int_int_l1 a i x ()=some (.nxt ()):=by simp [m_slices_Index_int_int_l1,hb]
    rcases ih (i+1) with ⟨n,h1,h2⟩ | ⟨h1,h2⟩
    ·exact .inl ⟨n,by rw [rangeM_cons,e]; simpa using h1,by simp [h2]⟩
    ·exact .inr ⟨by rw [rangeM_cons,e]; simpa using h1,by simp [h,h2]⟩
 unfold m_slices_Index_int_int
 rcases key xs 0 with ⟨n,h1,h2⟩ | ⟨h1,h2⟩
 ·exact ⟨n,by rw [h1]; rfl,by simp [h2]⟩
 ·exact ⟨-1,by rw [h1]; rfl,by simp [h2]⟩
theorem Contains_spec (xs:List Int) (a:Int):m_slices_Contains_int_int xs a=some (decide (a∈xs)):=by
 obtain ⟨r,h,h'⟩:=IndexI_sp xs a
 unfold m_slices_Contains_int_int
 rw [h,Option.bind_some]
 exact congrArg some (decide_eq_decide.2 h')
def outB (a b c:Int):Bool:=decide (a<b)||decide (a>c)
theorem OutB_spec (a b c:Int):m_kit_Outside a b c=some (outB a b c):=by
 unfold m_kit_Outside outB
 cases decide (a<b) <;> rfl
theorem inB_spec (a b c:Int):m_gleeref2_in a b c=some (!outB a b c):=by
 unfold m_gleeref2_in outB
 by_cases h1:a<b
 ·simp [h1,Int.not_le.2 h1]
 ·by_cases h2:a>c
  ·simp [h1,h2,Int.not_lt.1 h1,Int.not_le.2 h2]
  ·simp [h1,h2,Int.not_lt.1 h1,Int.not_lt.1 h2]
def unitB (a:Int):Bool:=decide (a∈[(1:Int),2,4,8,16])
def bad (x:TBar):Bool:=outB x.Beats 1 16 || !unitB x.Unit||(x.Close != 0&&outB x.Close 2 9)||outB x.Ending 0 9
theorem bad_mk (beats unit cl en:Int) (op:Bool):bad ⟨beats,unit,cl,en,op⟩=(outB beats 1 16 || !decide (unit∈[(1:Int),2,4,8,16])||(cl != 0&&outB cl 2 9)||outB en 0 9):=rfl
theorem barFault_spec (x:TBar):m_piece_barFault x=some (bif bad x then 1 else 0):=by
 unfold m_piece_barFault m_piece_isUnit bad
 simp only [OutB_spec,Contains_spec,Option.bind_some]
 show _=some (bif outB x.Beats 1 16 || !decide (x.Unit∈[(1:Int),2,4,8,16])||(x.Close != 0&&outB x.Close 2 9)||outB x.Ending 0 9 then 1 else 0)
 generalize outB x.Beats 1 16=b1
 generalize decide (x.Unit∈[(1:Int),2,4,8,16])=b2
 generalize (x.Close != 0)=b3
 generalize outB x.Close 2 9=b4
 generalize outB x.Ending 0 9=b5
 cases b1 <;> cases b2 <;> cases b3 <;> cases b4 <;> cases b5 <;> rfl
abbrev SB:=Bool × Int × Int × Bool
def stB (x:TBar) (s:SB):Int ⊕ SB :=
 ifB (bad x) (.inl 1) (ifB (x.Open&&s.1) (.inl 16)
  (ifB (x.Open||s.1) (ifB (decide (x.Ending<bif x.Open then 0 else s.2.1)) (.inl 16)
    (ifB (x.Close != 0) (.inr (false,x.Ending,max (bif x.Open then 0 else s.2.2.1) x.Ending,s.2.2.2||decide (max (bif x.Open then 0 else s.2.2.1) x.Ending>x.Close)))
     (.inr (true,x.Ending,max (bif x.Open then 0 else s.2.2.1) x.Ending,s.2.2.2))))
   (ifB (x.Close != 0||x.Ending != 0) (.inl 16) (.inr s))))
def goB:SB→List TBar→Int ⊕ SB
 | s,[]=>.inr s
 | s,x::t=>match stB x s with | .inl k=>.inl k | .inr s'=>goB s' t
theorem refStep (i:Nat) (x:TBar) (s:SB):m_gleeref2_BarsFault_l1 i x s=some (match stB x s with | .inl k=>.ret k | .inr s'=>.nxt s'):=by
 obtain ⟨o,e,m,w⟩:=s
 obtain ⟨beats,unit,cl,en,op⟩:=x
 unfold m_gleeref2_BarsFault_l1 stB
 rw [bad_mk]
 simp only [inB_spec,Contains_spec,Option.bind_some]
 generalize outB beats 1 16=b1
 generalize decide (unit∈[(1:Int),2,4,8,16])=b2
 generalize (cl != 0)=b3
 generalize outB cl 2 9=b4
 generalize outB en 0 9=b5
 generalize (en != 0)=b6
 have hbad:∀ k:Bool→Option (Flow (Bool × Int × Int × Bool) Int),(ifB (!!b1) (some (Sum.inl true)) (ifB (!b2) (some (Sum.inl true)) (ifB b3 (ifB (!!b4) (some (Sum.inl true)) (some (Sum.inl (!!b5)))) (some (Sum.inl (!!b5))))):Option (Bool ⊕ (Flow (Bool × Int × Int × Bool) Int))).bind (fun z=>Sum.fin z k)=k (b1 || !b2||(b3&&b4)||b5):=by
  intro k
  cases b1 <;> cases b2 <;> cases b3 <;> cases b4 <;> cases b5 <;> rfl
 rw [hbad]
 generalize (b1 || !b2||(b3&&b4)||b5)=b
 cases b with
 | true=>rfl
 | false =>
  cases op <;> cases o <;> cases b3 <;> cases w <;> simp only [ifB_true,ifB_false,Option.bind_some,fin_inl,fin_inr,Bool.not_true,Bool.not_false,Bool.and_true,Bool.and_false,Bool.or_true,Bool.or_false,cond_true,cond_false,Bool.true_or,Bool.false_or] <;> first | rfl | (cases b6 <;> rfl) | (by_cases h:en<e <;> by_cases h':en<0 <;> simp [h,h'])
theorem notbad (x:TBar) (h:bad x=false):1≤x.Beats∧x.Beats≤16∧(x.Unit=1∨x.Unit=2∨x.Unit=4∨x.Unit=8∨x.Unit=16)∧(x.Close≠0→2≤x.Close∧x.Close≤9)∧0≤x.Ending∧x.Ending≤9:=by
 unfold bad outB unitB at h
 simp only [Bool.or_eq_false_iff,decide_eq_false_iff_not,Bool.not_eq_false',decide_eq_true_eq,Bool.and_eq_false_iff] at h
 obtain ⟨⟨⟨⟨h1,h2⟩,h3⟩,h4⟩,h5,h6⟩:=h
 simp only [List.mem_cons,List.not_mem_nil,or_false] at h3
 refine ⟨by omega,by omega,h3,fun hc=>?_,by omega,by omega⟩
 rcases h4 with h4 | ⟨h4,h4'⟩
 ·simp at h4; exact (hc h4).elim
 ·omega
theorem progStep (bs:List TBar) (i:Nat) (x:TBar) (s:SB) (h:s.1=true→∃ p,getI bs (w64 ((i:Int) - 1))=some p∧p.Ending=s.2.1) :
  m_piece_rulesFault_l1 bs i x s.1=some (match stB x s with | .inl k=>.ret k | .inr s'=>.nxt s'.1):=by
 obtain ⟨o,e,m,w⟩:=s
 unfold m_piece_rulesFault_l1 stB
 rw [barFault_spec,Option.bind_some]
 cases hb:bad x with
 | true=>rfl
 | false =>
  have hE:¬ x.Ending<0:=by have:=notbad x hb; omega
  obtain ⟨beats,unit,cl,en,op⟩:=x
  simp only at hE h
  have hc:(cl != 0) = !(cl==0):=rfl
  cases o with
  | true =>
   obtain ⟨p,hp,rfl⟩:=h rfl
   cases op <;> cases hcl:(cl==0) <;> by_cases hlt:en<p.Ending <;> simp [hp,hc,hcl,hlt,hE]
  | false =>
   cases op <;> cases hcl:(cl==0) <;> cases hen:(en != 0) <;> simp [hc,hcl,hE]
theorem barRef:∀ (t:List TBar) (i:Nat) (s:SB),rangeM m_gleeref2_BarsFault_l1 i t s=some (match goB s t with | .inl k=>.ret k | .inr s'=>.brk s')
 | [],i,s=>rfl
 | x::t,i,s=>by
  rw [rangeM_cons,refStep,Option.bind_some]
  unfold goB
  cases h:stB x s with
  | inl k=>rfl
  | inr s'=>exact barRef t (i+1) s'
theorem stB_inr {x:TBar} {s s':SB} (h:stB x s = .inr s'):bad x=false∧(x.Open=true→s.1=false) ∧
    ((x.Open=false∧s.1=false∧x.Close=0∧x.Ending=0∧s'=s) ∨
     ((x.Open=true∨s.1=true)∧x.Close=0∧s'=(true,x.Ending,max (bif x.Open then 0 else s.2.2.1) x.Ending,s.2.2.2)) ∨
     ((x.Open=true∨s.1=true)∧x.Close≠0∧s'=(false,x.Ending,max (bif x.Open then 0 else s.2.2.1) x.Ending,s.2.2.2||decide (max (bif x.Open then 0 else s.2.2.1) x.Ending>x.Close)))):=by
  unfold stB at h
  cases hb:bad x with
  | true=>rw [hb] at h; cases h
  | false =>
    rw [hb,ifB_false] at h
    cases ho:x.Open <;> cases hs:s.1 <;> cases hc:(x.Close != 0) <;> cases he:(x.Ending != 0) <;> simp only [ho,hs,hc,he,ifB_true,ifB_false,Bool.and_true,Bool.and_false,Bool.or_true,Bool.or_false,cond_true,cond_false,reduceCtorEq] at h
    all_goals simp at hc he
    all_goals first
      | (refine ⟨rfl,by simp,?_⟩
         cases h
         exact .inl ⟨rfl,rfl,hc,he,rfl⟩)
      | (refine ⟨rfl,by simp,?_⟩
         split at h
         · cases h
         · cases h
           first | exact .inr (.inl ⟨by simp,hc,rfl⟩) | exact .inr (.inr ⟨by simp,hc,rfl⟩))
      | (refine ⟨rfl,by simp,?_⟩
         rw [ifB_ite] at h
         split at h
         · cases h
         · cases h
           first | exact .inr (.inl ⟨by simp,hc,rfl⟩) | exact .inr (.inr ⟨by simp,hc,rfl⟩))
theorem goB_cons {s r:SB} {x:TBar} {t:List TBar} (h:goB s (x::t) = .inr r):∃ s',stB x s = .inr s'∧goB s' t = .inr r:=by
 unfold goB at h
 cases hs:stB x s with
 | inl k=>rw [hs] at h; cases h
 | inr s'=>rw [hs] at h; exact ⟨s',rfl,h⟩
theorem goB_inl:∀ (t:List TBar) (s:SB) (k:Int),goB s t = .inl k→k≠0
 | [],s,k,h=>by cases h
 | x::t,s,k,h=>by
  unfold goB at h
  cases hs:stB x s with
  | inr s'=>rw [hs] at h; exact goB_inl t s' k h
  | inl k' =>
   rw [hs] at h
   cases h
   unfold stB at hs
   intro h0
   subst h0
   revert hs
   generalize bad x=b1
   generalize (x.Open&&s.1)=b2
   generalize (x.Open||s.1)=b3
   generalize decide (x.Ending<bif x.Open then 0 else s.2.1)=b4
   generalize (x.Close != 0)=b5
   generalize (x.Ending != 0)=b6
   cases b1 <;> cases b2 <;> cases b3 <;> cases b4 <;> cases b5 <;> cases b6 <;> simp
theorem goB_all:∀ (t:List TBar) (s r:SB),goB s t = .inr r→∀ x∈t,bad x=false
 | [],_,_,_,x,hx=>by cases hx
 | y::t,s,r,h,x,hx=>by
  obtain ⟨s',h1,h2⟩:=goB_cons h
  rcases List.mem_cons.1 hx with rfl | hx
  ·exact (stB_inr h1).1
  ·exact goB_all t s' r h2 x hx
theorem drop_cons {α : Type} {bs t:List α} {i:Nat} {x : α} (h:bs.drop i=x::t):bs[i]? = some x∧bs.drop (i+1)=t:=by
 constructor
 ·have:(bs.drop i)[0]? = some x:=by rw [h]; rfl
  simpa using this
 ·rw [← List.drop_drop,h]; rfl
theorem barProg (bs:List TBar) (hl:bs.length≤600):∀ (t:List TBar) (i:Nat) (s:SB),bs.drop i=t→(s.1=true→∃ p,1≤i∧bs[i - 1]? = some p∧p.Ending=s.2.1) →
  rangeM (m_piece_rulesFault_l1 bs) i t s.1=some (match goB s t with | .inl k=>.ret k | .inr s'=>.brk s'.1)
 | [],i,s,_,_=>rfl
 | x::t,i,s,hd,h=>by
  obtain ⟨hx,hd'⟩:=drop_cons hd
  have hi:i<bs.length:=(List.getElem?_eq_some_iff.1 hx).1
  rw [rangeM_cons,progStep bs i x s (fun ho=>by
   obtain ⟨p,h1,h2,h3⟩:=h ho
   exact ⟨p,getI_of (n:=i - 1) (by rw [w64_id (by omega)]; omega) h2,h3⟩),Option.bind_some]
  unfold goB
  cases hs:stB x s with
  | inl k=>rfl
  | inr s' =>
   refine barProg bs hl t (i+1) s' hd' fun ho=>⟨x,by omega,by simpa using hx,?_⟩
   rcases (stB_inr hs).2.2 with ⟨_,h2,_,_,rfl⟩ | ⟨_,_,rfl⟩ | ⟨_,_,rfl⟩
   ·rw [h2] at ho; cases ho
   ·rfl
   ·cases ho
theorem rulesFault_spec (bs:List TBar) (hl:bs.length≤600):m_piece_rulesFault bs=some (match goB (false,0,0,false) bs with | .inl k=>k | .inr _=>0):=by
 unfold m_piece_rulesFault
 have:=barProg bs hl bs 0 (false,0,0,false) rfl (by simp)
 rw [this]
 cases goB (false,0,0,false) bs <;> rfl
end Go.G
