/- LY2: lists of acts: what CheckActs and the reference's ActsFault find. In plain Lean, no program in sight. -/
import Derived.Test.YtlkpfhdlfapfhaaGreatDoorLY1
namespace Go.G
open Go Go.J
set_option linter.unusedSimpArgs false
def cI (a b:Int):Int:=bif decide (a<b) then -1 else bif decide (a>b) then 1 else 0
theorem Compare_int (a b:Int):m_cmp_Compare_int a b=some (cI a b):=by
 unfold m_cmp_Compare_int m_cmp_isNaN_int cI
 have:∀ n:Int,(n != n)=false:=fun n=>by simp
 simp only [this,Option.bind_some,ifB_false]
 cases decide (a<b) <;> cases decide (a>b) <;> rfl
def cmpS (a b:ByteArray):Int:=Lib.compareBytes (bytesOf a) (bytesOf b)
def cmpA (a b:TAct):Int:=bif cI a.At b.At != 0 then cI a.At b.At else bif cmpS a.Site b.Site != 0 then cmpS a.Site b.Site else cI a.No b.No
theorem compare_spec (a b:TAct):m_club_compare a b=some (cmpA a b):=by
 unfold m_club_compare
 rw [Compare_int,Option.bind_some,show m_strings_Compare a.Site b.Site=some (cmpS a.Site b.Site) from rfl,Option.bind_some,Compare_int,Option.bind_some]
 unfold m_cmp_Or_int cmpA
 rw [rangeM_cons]
 unfold m_cmp_Or_int_l1
 cases h1:(cI a.At b.At != 0)
 ·rw [ifB_false,Option.bind_some,run_nxt,rangeM_cons]
  cases h2:(cmpS a.Site b.Site != 0)
  ·rw [ifB_false,Option.bind_some,run_nxt,rangeM_cons]
   cases h3:(cI a.No b.No != 0)
   ·have:cI a.No b.No=0:=by simpa using h3
    simp [this]
   ·simp
  ·simp
 ·simp
def f1:Option TAct→List TAct→Int
 | _,[]=>0
 | p,x::t=>bif actF x != 0 then actF x else bif (match p with | none=>false | some y=>decide (cmpA y x≥0)) then 7 else f1 (some x) t
def own (x:TAct):Tclub_own:=⟨x.Site,x.No⟩
def f2:List Tclub_own→List TAct→Int
 | _,[]=>0
 | s,x::t=>bif decide (own x∈s) then 6 else f2 (s++[own x]) t
def actsF (l:List TAct):Int:=bif decide (l.length>2000) then 2 else bif f1 none l != 0 then f1 none l else f2 [] l
def prevA (l:List TAct) (i:Nat):Option TAct:=if i=0 then none else l[i - 1]?
def out1 (p:Option TAct) (x:TAct):Flow Unit Int:=bif actF x != 0 then .ret (actF x) else bif (match p with | none=>false | some y=>decide (cmpA y x≥0)) then .ret 7 else .nxt ()
theorem loop1 (l:List TAct) (step:Nat→TAct→Unit→Option (Flow Unit Int)) (h:∀ (i:Nat) x,l[i]? = some x→(∀ y,prevA l i=some y→actF y=0)→step i x ()=some (out1 (prevA l i) x)) :
  ∀ (t:List TAct) (i:Nat),l.drop i=t→(∀ y,prevA l i=some y→actF y=0)→rangeM step i t ()=some (bif f1 (prevA l i) t==0 then .brk () else .ret (f1 (prevA l i) t)):=by
 intro t
 induction t with
 | nil=>intro i _ _; rfl
 | cons x t ih =>
  intro i hd hp
  have hx:l[i]? = some x:=by
   have:(l.drop i)[0]? = some x:=by rw [hd]; rfl
   simpa using this
  have hd':l.drop (i+1)=t:=by rw [← List.drop_drop,hd]; rfl
  have hp':prevA l (i+1)=some x:=by unfold prevA; rw [if_neg (by omega)]; simpa using hx
  rw [rangeM_cons,h i x hx hp]
  unfold out1 f1
  cases h1:(actF x != 0)
  ·have h0:actF x=0:=by simpa using h1
   cases h2:(match prevA l i with | none=>false | some y=>decide (cmpA y x≥0))
   ·simp only [cond_false,Option.bind_some,run_nxt]
    rw [ih (i+1) hd' (fun y hy=>by rw [hp'] at hy; cases hy; exact h0),hp']
   ·simp
  ·have h3:(actF x==0)=false:=by simpa [bne] using h1
   simp [h3]
theorem prev_get {l:List TAct} {i:Nat} {x:TAct} (hx:l[i]? = some x) (h0:i≠0) (hl:l.length≤2000):∃ y,prevA l i=some y∧getI l (w64 ((i:Int) - 1))=some y:=by
 have hi:=(List.getElem?_eq_some_iff.1 hx).1
 have h1:l[i - 1]? = some (l[i - 1]'(by omega)):=List.getElem?_eq_getElem (by omega)
 refine ⟨_,by unfold prevA; rw [if_neg h0]; exact h1,?_⟩
 rw [w64_id (by omega)]
 exact getI_of (by omega) h1
theorem checkL1 (l:List TAct) (hl:l.length≤2000) (i:Nat) (x:TAct) (hx:l[i]? = some x):m_club_CheckActs_l1 l i x ()=some (out1 (prevA l i) x):=by
 unfold m_club_CheckActs_l1 out1
 rw [formed_spec,Option.bind_some]
 cases h1:(actF x != 0)
 ·rw [ifB_false,cond_false]
  by_cases h0:i=0
  ·subst h0; rfl
  ·obtain ⟨y,hy,hg⟩:=prev_get hx h0 hl
   rw [decide_eq_true (show (i:Int)>0 by omega),ifB_true,hg,Option.bind_some,compare_spec,Option.bind_some,hy]
   simp only
   cases decide (cmpA y x≥0) <;> rfl
 ·rfl
theorem checkL2:∀ (t:List TAct) (i:Nat) (s:List Tclub_own) (u:List (Tclub_own × Bool)),(∀ k,(lkM u k).getD false=decide (k∈s)) →
  ∃ u',rangeM m_club_CheckActs_l2 i t u=some (bif f2 s t==0 then .brk u' else .ret (f2 s t)):=by
 intro t
 induction t with
 | nil=>intro i s u _; exact ⟨u,rfl⟩
 | cons x t ih =>
  intro i s u hu
  rw [rangeM_cons]
  unfold m_club_CheckActs_l2 f2
  rw [show (Tclub_own.mk x.Site x.No)=own x from rfl,hu]
  cases h:decide (own x∈s)
  ·obtain ⟨u',h1⟩:=ih (i+1) (s++[own x]) (putM u (own x) true) (fun k=>by
    rw [lkM_put]
    by_cases hk:k=own x
    ·rw [if_pos hk]; simp [hk]
    ·rw [if_neg hk,hu]; simp [hk])
   exact ⟨u',by rw [ifB_false,Option.bind_some,run_nxt]; exact h1⟩
  ·exact ⟨u,by simp⟩
theorem fin_f (e:Int) (k:Option Int):(Flow.fin (bif e==0 then (.brk ():Flow Unit Int) else .ret e) fun _=>k)=bif e != 0 then some e else k:=by
 cases h:(e==0)
 ·simp [bne,h]
 ·simp [bne,h]
theorem CheckActs_spec (l:List TAct):m_club_CheckActs l=some (actsF l):=by
 unfold m_club_CheckActs actsF
 by_cases hl:l.length>2000
 ·rw [decide_eq_true hl,decide_eq_true (show (l.length:Int)>2000 by omega)]; rfl
 ·rw [decide_eq_false hl,decide_eq_false (show ¬ (l.length:Int)>2000 by omega),ifB_false,cond_false]
  rw [loop1 l _ (fun i x hx _=>checkL1 l (by omega) i x hx) l 0 rfl (fun y hy=>by cases hy),Option.bind_some,fin_f]
  rw [show prevA l 0=none from rfl]
  cases (f1 none l != 0)
  ·obtain ⟨u',h⟩:=checkL2 l 0 [] [] (fun k=>by simp [lkM])
   rw [cond_false,cond_false,h]
   cases h2:(f2 [] l==0)
   ·rfl
   ·rw [cond_true,Option.bind_some,fin_brk,show f2 [] l=0 by simpa using h2]
  ·rfl
structure ActsOK (l:List TAct):Prop where
 len:l.length≤2000
 ok:∀ x∈l,actF x=0
 ord:∀ (i:Nat) x y,l[i]? = some x→l[i+1]? = some y→cmpA x y<0
 nd:(l.map own).Nodup
theorem f1_zero:∀ (t:List TAct) (p:Option TAct),f1 p t=0↔(∀ x∈t,actF x=0)∧(∀ y x,p=some y→t[0]? = some x→cmpA y x<0)∧∀ (i:Nat) x y,t[i]? = some x→t[i+1]? = some y→cmpA x y<0:=by
 intro t
 induction t with
 | nil=>intro p; simp [f1]
 | cons z t ih =>
  intro p
  unfold f1
  by_cases h1:actF z=0
  ·rw [show (actF z != 0)=false by simpa using h1,cond_false]
   have key:((match p with | none=>false | some y=>decide (cmpA y z≥0))=false)↔∀ y,p=some y→cmpA y z<0:=by
    cases p with
    | none=>simp
    | some y=>simp
   cases h2:(match p with | none=>false | some y=>decide (cmpA y z≥0))
   ·have h3:=key.1 h2
    rw [cond_false,ih]
    constructor
    ·rintro ⟨a,b,c⟩
     refine ⟨fun x hx=>?_,fun y x hy hx=>?_,fun i x y hx hy=>?_⟩
     ·rcases List.mem_cons.1 hx with rfl | hx
      ·exact h1
      ·exact a x hx
     ·simp at hx; subst hx; exact h3 y hy
     ·cases i with
      | zero=>simp at hx; subst hx; exact b z y rfl (by simpa using hy)
      | succ i=>exact c i x y (by simpa using hx) (by simpa using hy)
    ·rintro ⟨a,b,c⟩
     refine ⟨fun x hx=>a x (List.mem_cons_of_mem _ hx),fun y x hy hx=>?_,fun i x y hx hy=>c (i+1) x y (by simpa using hx) (by simpa using hy)⟩
     cases hy
     exact c 0 z x rfl (by simpa using hx)
   ·rw [cond_true]
    constructor
    ·intro h; cases h
    ·rintro ⟨a,b,c⟩
     have:=key.2 fun y hy=>b y z hy rfl
     rw [h2] at this; cases this
  ·rw [show (actF z != 0)=true by simpa using h1,cond_true]
   exact ⟨fun h=>(h1 h).elim,fun h=>h.1 z (List.mem_cons_self ..)⟩
theorem f2_zero:∀ (t:List TAct) (s:List Tclub_own),f2 s t=0↔(t.map own).Nodup∧∀ x∈t,own x∉s:=by
 intro t
 induction t with
 | nil=>intro s; simp [f2]
 | cons z t ih =>
  intro s
  unfold f2
  by_cases h1:own z∈s
  ·rw [decide_eq_true h1,cond_true]
   exact Iff.intro (fun h=>by cases h) (fun h=>(h.2 z (List.mem_cons_self ..) h1).elim)
  ·rw [decide_eq_false h1,cond_false,ih,List.map_cons,List.nodup_cons]
   constructor
   ·rintro ⟨a,b⟩
    refine ⟨⟨fun h=>?_,a⟩,fun x hx=>?_⟩
    ·obtain ⟨x,hx,e⟩:=List.mem_map.1 h
     exact b x hx (by rw [e]; simp)
    ·rcases List.mem_cons.1 hx with rfl | hx
     ·exact h1
     ·exact fun h=>b x hx (List.mem_append_left _ h)
   ·rintro ⟨⟨a,a'⟩,b⟩
    refine ⟨a',fun x hx h=>?_⟩
    rcases List.mem_append.1 h with h | h
    ·exact b x (List.mem_cons_of_mem _ hx) h
    ·simp at h
     exact a (List.mem_map.2 ⟨x,hx,h⟩)
theorem actsF_zero (l:List TAct):actsF l=0↔ActsOK l:=by
 unfold actsF
 by_cases hl:l.length>2000
 ·rw [decide_eq_true hl,cond_true]
  exact Iff.intro (fun h=>by cases h) (fun h=>by have:=h.len; omega)
 ·rw [decide_eq_false hl,cond_false]
  by_cases h1:f1 none l=0
  ·rw [show (f1 none l != 0)=false by simpa using h1,cond_false,f2_zero]
   obtain ⟨a,-,c⟩:=(f1_zero l none).1 h1
   exact ⟨fun h=>⟨by omega,a,c,h.1⟩,fun h=>⟨h.nd,by simp⟩⟩
  ·rw [show (f1 none l != 0)=true by simpa using h1,cond_true]
   exact ⟨fun h=>(h1 h).elim,fun h=>(h1 ((f1_zero l none).2 ⟨h.ok,by simp,h.ord⟩)).elim⟩
end Go.G
