/- LY4: the books of a club, as the program keeps them. In plain Lean, no program in sight. -/
import Derived.Test.YtlkpfhdlfapfhaaGreatDoorLY3a
namespace Go.G
open Go Go.J
set_option linter.unusedSimpArgs false
set_option linter.unusedVariables false
abbrev Stays:=List (ByteArray × List Tclub_stay)
abbrev Motn:=Bool × List (ByteArray × Bool) × List ByteArray
abbrev Mots:=List (ByteArray × Motn)
structure Bk where
 st:Stays
 pd:List (ByteArray × Int)
 mo:Mots
 rf:List Int
def rowOf (st:Stays) (k:ByteArray):List Tclub_stay:=(lkM st k).getD []
def memK (st:Stays) (k:ByteArray):Bool:=match (rowOf st k).getLast? with | some s=>decide (s.till<0) | none=>false
theorem last_get {α : Type} {l:List α} (h:0<l.length) (hl:l.length≤1000000):∃ x,l.getLast? = some x∧getI l (w64 ((l.length:Int) - 1))=some x∧(w64 ((l.length:Int) - 1)).toNat=l.length - 1:=by
 have h1:l[l.length - 1]? = some (l[l.length - 1]'(by omega)):=List.getElem?_eq_getElem (by omega)
 refine ⟨_,by rw [List.getLast?_eq_getElem?]; exact h1,?_,?_⟩
 ·rw [w64_id (by omega)]; exact getI_of (by omega) h1
 ·rw [w64_id (by omega)]; omega
theorem isMember_spec (a:Int) (st:Stays) (pd:List (ByteArray × Int)) (mo:Mots) (rf:List Int) (k:ByteArray) (h:(rowOf st k).length≤1000000):m_club_books_isMember a st pd mo rf k=some (memK st k):=by
 unfold m_club_books_isMember memK
 show ifB (decide (((rowOf st k).length:Int)>0)) ((getI (rowOf st k) (w64 (((rowOf st k).length:Int) - 1))).bind fun e1=>some (decide (e1.till<0))) (some false)=_
 by_cases h0:0<(rowOf st k).length
 ·obtain ⟨x,e1,e2,-⟩:=last_get h0 h
  rw [decide_eq_true (by omega),ifB_true,e2,e1]; rfl
 ·have:rowOf st k=[]:=List.eq_nil_of_length_eq_zero (by omega)
  rw [this]; rfl
def openM (mo:Mots) (k:ByteArray):Bool:=match lkM mo k with | some t=>!t.1 | none=>false
theorem isOpen_spec (a:Int) (st:Stays) (pd:List (ByteArray × Int)) (mo:Mots) (rf:List Int) (k:ByteArray):m_club_books_isOpen a st pd mo rf k=some (openM mo k):=by
 unfold m_club_books_isOpen openM
 cases lkM mo k <;> rfl
noncomputable def sortK (l:List ByteArray):List ByteArray:=((l.map bytesOf).mergeSort fun x y=>decide (x≤y)).map ofBytes
theorem Sort_K (l:List ByteArray) (h:l.length≤1000000000):m_slices_Sort_string_string l=some (sortK l):=by
 unfold m_slices_Sort_string_string sortK
 rw [if_pos (by omega)]
theorem sortK_len (l:List ByteArray):(sortK l).length=l.length:=by unfold sortK; simp
noncomputable def membersOf (st:Stays):List ByteArray:=(sortK (st.map Prod.fst)).filter (memK st)
theorem members_spec (a:Int) (st:Stays) (pd:List (ByteArray × Int)) (mo:Mots) (rf:List Int) (h:∀ k,(rowOf st k).length≤1000000) (hl:st.length≤1000000):m_club_books_members a st pd mo rf=some (membersOf st):=by
 unfold m_club_books_members m_slices_Sorted_string__maps_Keys_map_string_club_stay_string_club_stay_1
 rw [if_pos (by omega),Sort_K _ (by simp; omega),Option.bind_some,rangeM_filterMap _ (fun x=>if memK st x then some x else none) _ (by
  intro i x s hx hs
  have hi:=(List.getElem?_eq_some_iff.1 hx).1
  rw [sortK_len] at hi
  simp only [List.length_map] at hi
  unfold m_club_books_members_l1
  rw [isMember_spec _ _ _ _ _ _ (h x),Option.bind_some]
  cases hm:memK st x
  ·simp
  ·rw [ifB_true,appM_of (by simp; omega) (by omega)]; simp),Option.bind_some,fin_brk]
 unfold membersOf
 rw [← List.filterMap_eq_filter]
 congr 2
def perm (st:Stays) (mo:Mots) (x:TAct):Bool :=
 bif x.Kind==1 then !memK st x.Who else bif x.Kind==2 then memK st x.Who else bif x.Kind==4 then (lkM mo x.Motion).isNone else
 bif x.Kind==5 then memK st x.Who&&openM mo x.Motion else bif x.Kind==6 then openM mo x.Motion else true
theorem permits_spec (a:Int) (st:Stays) (pd:List (ByteArray × Int)) (mo:Mots) (rf:List Int) (x:TAct) (h:∀ k,(rowOf st k).length≤1000000):m_club_books_permits a st pd mo rf x=some (perm st mo x):=by
 unfold m_club_books_permits perm
 rw [isMember_spec _ _ _ _ _ _ (h _),isOpen_spec]
 cases x.Kind==1 <;> cases x.Kind==2 <;> cases x.Kind==4 <;> cases x.Kind==5 <;> cases x.Kind==6 <;> cases memK st x.Who <;> cases lkM mo x.Motion <;> rfl
def quitRow (l:List Tclub_stay) (at_:Int):List Tclub_stay:=match l.getLast? with | some s=>l.set (l.length - 1) ⟨s.since,at_,s.cents⟩ | none=>l
noncomputable def actB (st:Stays) (pd:List (ByteArray × Int)) (mo:Mots) (x:TAct):Stays × List (ByteArray × Int) × Mots :=
 bif x.Kind==1 then (putM st x.Who (rowOf st x.Who++[⟨x.At,-1,x.Cents⟩]),pd,mo) else
 bif x.Kind==2 then (putM st x.Who (quitRow (rowOf st x.Who) x.At),pd,mo) else
 bif x.Kind==3 then (st,putM pd x.Who (w64 (((lkM pd x.Who).getD 0)+x.Cents)),mo) else
 bif x.Kind==4 then (st,pd,putM mo x.Motion (false,[],[])) else
 match lkM mo x.Motion with
 | none=>(st,pd,mo)
 | some t=>bif x.Kind==5 then (st,pd,putM mo x.Motion (t.1,putM t.2.1 x.Who x.Yes,t.2.2)) else
  bif x.Kind==6 then (st,pd,putM mo x.Motion (true,t.2.1,membersOf st)) else (st,pd,mo)
theorem memK_row {st:Stays} {k:ByteArray} (h:memK st k=true):∃ s,(rowOf st k).getLast? = some s∧s.till<0∧hasM st k=true∧0<(rowOf st k).length:=by
 unfold memK at h
 cases hl:(rowOf st k).getLast? with
 | none=>rw [hl] at h; cases h
 | some s =>
  rw [hl] at h
  refine ⟨s,rfl,by simpa using h,?_,?_⟩
  ·rw [lkM_has]
   unfold rowOf at hl
   cases h2:lkM st k with
   | none=>rw [h2] at hl; cases hl
   | some r=>rfl
  ·cases hr:rowOf st k with
   | nil=>rw [hr] at hl; cases hl
   | cons=>simp
theorem openM_some {mo:Mots} {k:ByteArray} (h:openM mo k=true):∃ t,lkM mo k=some t∧t.1=false:=by
 unfold openM at h
 cases hl:lkM mo k with
 | none=>rw [hl] at h; cases h
 | some t=>rw [hl] at h; exact ⟨t,rfl,by simpa using h⟩
theorem act_spec (a:Int) (st:Stays) (pd:List (ByteArray × Int)) (mo:Mots) (rf:List Int) (x:TAct) (h:∀ k,(rowOf st k).length≤1000000) (hl:st.length≤1000000) (hp:perm st mo x=true):m_club_books_act a st pd mo rf x=some (actB st pd mo x):=by
 unfold m_club_books_act actB
 unfold perm at hp
 cases h1:x.Kind==1
 case true =>
  simp only [ifB_true,cond_true]
  rw [show (lkM st x.Who).getD []=rowOf st x.Who from rfl,appM_of (by have:=h x.Who; simp; omega) (by omega),Option.bind_some]
 simp only [ifB_false,cond_false]
 cases h2:x.Kind==2
 case true =>
  simp only [h1,h2,cond_false,cond_true] at hp
  obtain ⟨s,e1,e2,e3,e4⟩:=memK_row hp
  obtain ⟨s',f1,f2,f3⟩:=last_get e4 (h x.Who)
  rw [e1] at f1; cases f1
  simp only [ifB_true,cond_true]
  rw [show (lkM st x.Who).getD []=rowOf st x.Who from rfl,f2,Option.bind_some,f3,← repM_put e3]
  unfold quitRow
  rw [e1]
 simp only [ifB_false,cond_false]
 cases h3:x.Kind==3
 case true=>rfl
 simp only [ifB_false,cond_false]
 cases h4:x.Kind==4
 case true=>rfl
 simp only [ifB_false,cond_false]
 simp only [h1,h2,h4,cond_false] at hp
 cases h5:x.Kind==5
 case true =>
  simp only [h5,cond_true,Bool.and_eq_true] at hp
  obtain ⟨t,e1,e2⟩:=openM_some hp.2
  simp only [ifB_true,cond_true,e1,optB_some]
  rw [repM_put (hasM_of e1)]
 simp only [h5,cond_false] at hp
 simp only [ifB_false,cond_false]
 cases h6:x.Kind==6
 case true =>
  simp only [h6,cond_true] at hp
  obtain ⟨t,e1,e2⟩:=openM_some hp
  simp only [ifB_true,cond_true,e1,optB_some]
  rw [members_spec a st pd mo rf h hl,Option.bind_some,repM_put (hasM_of e1)]
 simp only [ifB_false,cond_false]
 cases lkM mo x.Motion <;> rfl
noncomputable def stepX (s:Bk) (z:Int) (x:TAct):Bk :=
 if perm s.st s.mo x=true then ⟨(actB s.st s.pd s.mo x).1,(actB s.st s.pd s.mo x).2.1,(actB s.st s.pd s.mo x).2.2,s.rf⟩ else ⟨s.st,s.pd,s.mo,s.rf++[z]⟩
noncomputable def stepB (l:List TAct) (s:Bk) (z:Int):Bk:=match l[z.toNat]? with | some x=>stepX s z x | none=>s
noncomputable def booksOf (l:List TAct) (at_:Int):Bk:=(cntIx at_ 0 l).foldl (stepB l) ⟨[],[],[],[]⟩
structure BOK (n:Nat) (s:Bk):Prop where
 row:∀ k,(rowOf s.st k).length≤n
 len:s.st.length≤n
 rf:s.rf.length≤n
theorem rowOf_put (st:Stays) (k j:ByteArray) (r:List Tclub_stay):rowOf (putM st k r) j=if j=k then r else rowOf st j:=by
 unfold rowOf
 rw [lkM_put]
 split <;> rfl
theorem putM_len {K V:Type} [DecidableEq K] (l:List (K × V)) (k:K) (v:V):(putM l k v).length≤l.length+1:=by
 have:=congrArg List.length (putM_keys l k v)
 rw [List.length_map] at this
 rw [this]
 split <;> simp
theorem quitRow_len (l:List Tclub_stay) (a:Int):(quitRow l a).length=l.length:=by unfold quitRow; split <;> simp
theorem BOK.step {n:Nat} {s:Bk} (h:BOK n s) (z:Int) (x:TAct):BOK (n+1) (stepX s z x):=by
 have hr:=h.row; have hl:=h.len; have hf:=h.rf
 unfold stepX
 split
 ·rename_i hp
  unfold actB
  have base:BOK (n+1) ⟨s.st,s.pd,s.mo,s.rf⟩:=⟨fun k=>by have:=hr k; simp only; omega,by simp only; omega,by simp only; omega⟩
  have base2:∀ pd mo,BOK (n+1) ⟨s.st,pd,mo,s.rf⟩:=fun pd mo=>⟨fun k=>by have:=hr k; simp only; omega,by simp only; omega,by simp only; omega⟩
  cases h1:x.Kind==1
  case true =>
   simp only [cond_true]
   refine ⟨fun k=>?_,?_,by simp only; omega⟩
   ·rw [rowOf_put]
    have:=hr k; have:=hr x.Who
    split
    ·simp; omega
    ·omega
   ·have:=putM_len s.st x.Who (rowOf s.st x.Who++[⟨x.At,-1,x.Cents⟩]); simp only; omega
  simp only [cond_false]
  cases h2:x.Kind==2
  case true =>
   simp only [cond_true]
   refine ⟨fun k=>?_,?_,by simp only; omega⟩
   ·rw [rowOf_put]
    have:=hr k; have:=hr x.Who
    split
    ·rw [quitRow_len]; omega
    ·omega
   ·have:=putM_len s.st x.Who (quitRow (rowOf s.st x.Who) x.At); simp only; omega
  simp only [cond_false]
  cases h3:x.Kind==3
  case true=>exact base2 _ _
  simp only [cond_false]
  cases h4:x.Kind==4
  case true=>exact base2 _ _
  simp only [cond_false]
  cases lkM s.mo x.Motion with
  | none=>exact base2 _ _
  | some t =>
   simp only
   cases h5:x.Kind==5
   ·cases h6:x.Kind==6
    ·exact base2 _ _
    ·exact base2 _ _
   ·exact base2 _ _
 ·exact ⟨fun k=>by have:=hr k; simp only; omega,by simp only; omega,by simp; omega⟩
theorem bookL1 (l:List TAct) (at_:Int) (s:Bk) (i:Nat) (z:Nat) (x:TAct) (hx:l[z]? = some x) (n:Nat) (h:BOK n s) (hn:n≤100000) :
  m_club_booksAt_l1 l at_ i (z:Int) (s.mo,s.pd,s.st,s.rf)=some (.nxt ((stepX s z x).mo,(stepX s z x).pd,(stepX s z x).st,(stepX s z x).rf)):=by
 have hg:getI l (z:Int)=some x:=getI_of rfl hx
 have hrow:∀ k,(rowOf s.st k).length≤1000000:=fun k=>by have:=h.row k; omega
 have hlen:=h.len; have hf:=h.rf
 unfold m_club_booksAt_l1 stepX
 rw [hg,Option.bind_some,Option.bind_some,permits_spec _ _ _ _ _ _ hrow,Option.bind_some]
 cases hp:perm s.st s.mo x
 ·rw [ifB_false,appM_of (by simp; omega) (by omega),Option.bind_some]; simp
 ·rw [ifB_true,act_spec _ _ _ _ _ _ hrow (by omega) hp,Option.bind_some]; simp
theorem booksAt_spec (l:List TAct) (at_:Int) (hl:l.length≤2000):m_club_booksAt l at_=some (at_,(booksOf l at_).st,(booksOf l at_).pd,(booksOf l at_).mo,(booksOf l at_).rf)∧BOK 2000 (booksOf l at_):=by
 have hc:=cntIx_len at_ l 0
 have key:∀ (t:List Int) (i:Nat) (s:Bk) (n:Nat),(∀ z∈t,∃ j:Nat,z=(j:Int)∧j<l.length)→BOK n s→n+t.length≤2000 →
   rangeM (m_club_booksAt_l1 l at_) i t (s.mo,s.pd,s.st,s.rf)=some (.brk ((t.foldl (stepB l) s).mo,(t.foldl (stepB l) s).pd,(t.foldl (stepB l) s).st,(t.foldl (stepB l) s).rf))∧BOK (n+t.length) (t.foldl (stepB l) s):=by
  intro t
  induction t with
  | nil=>intro i s n _ hb _; exact ⟨rfl,hb⟩
  | cons z t ih =>
   intro i s n hz hb hn
   simp only [List.length_cons] at hn
   obtain ⟨j,rfl,hj⟩:=hz z (List.mem_cons_self ..)
   have hx:l[j]? = some (l[j]'hj):=List.getElem?_eq_getElem hj
   have e1:stepB l s (j:Int)=stepX s j (l[j]'hj):=by unfold stepB; rw [Int.toNat_natCast,hx]
   obtain ⟨g1,g2⟩:=ih (i+1) (stepX s j (l[j]'hj)) (n+1) (fun z hz'=>hz z (List.mem_cons_of_mem _ hz')) (hb.step _ _) (by omega)
   rw [rangeM_cons,bookL1 l at_ s i j _ hx n hb (by omega),Option.bind_some,run_nxt,List.foldl_cons,e1]
   exact ⟨g1,by rw [List.length_cons,show n+(t.length+1)=n+1+t.length by omega]; exact g2⟩
 obtain ⟨g1,g2⟩:=key (cntIx at_ 0 l) 0 ⟨[],[],[],[]⟩ 0 (fun z hz=>by
  obtain ⟨j,rfl,hj⟩:=cntIx_mem at_ l 0 z hz
  exact ⟨0+j,rfl,by omega⟩) ⟨fun k=>by simp [rowOf,lkM],by simp,by simp⟩ (by omega)
 refine ⟨?_,?_⟩
 ·unfold m_club_booksAt
  rw [counting_spec l at_ (by omega),Option.bind_some,g1]; rfl
 ·exact ⟨fun k=>Nat.le_trans (g2.row k) (by omega),Nat.le_trans g2.len (by omega),Nat.le_trans g2.rf (by omega)⟩
end Go.G
