/- LY5: the books of a club, as the reference keeps them: the same. In plain Lean, no program in sight. -/
import Derived.Test.YtlkpfhdlfapfhadGreatDoorLY3
import Derived.Test.YtlkpfhdlfapfhadGreatDoorLY6
namespace Go.G
open Go Go.J
set_option linter.unusedSimpArgs false
set_option linter.unusedVariables false
def cS (s:Tclub_stay):Tgleeref2_stay:=⟨s.since,s.till,s.cents⟩
def cM (m:bv2):Bool × List ByteArray × List (ByteArray × Bool):=(!m.1,m.2.2,m.2.1)
abbrev cSt (st:ab7):List (ByteArray × List Tgleeref2_stay):=mpV (List.map cS) st
abbrev cMo (mo:aB6):List (ByteArray × (Bool × List ByteArray × List (ByteArray × Bool))):=mpV cM mo
theorem aM6 (st:ab7) (k:ByteArray):(lkM (cSt st) k).getD []=(A5 st k).map cS:=by
 unfold A5
 rw [ao6]
 cases lkM st k <;> rfl
theorem bd7 (st:ab7):(cSt st).map Prod.fst=st.map Prod.fst:=by
 unfold cSt mpV
 rw [List.map_map]; rfl
theorem aR4 {r:List Tclub_stay} (h:0<r.length) (hl:r.length≤1000000):∃ s,r.getLast? = some s∧v8 (r.map cS) (w64 (((r.map cS).length:Int) - 1))=some (cS s)∧(w64 (((r.map cS).length:Int) - 1)).toNat=r.length - 1:=by
 obtain ⟨s,e1,e2,e3⟩:=aO1 h hl
 rw [List.length_map]
 exact ⟨s,e1,by rw [bG3,e2]; rfl,e3⟩
theorem aL1 (st:ab7) (pd:List (ByteArray × Int)) (po:List (ByteArray × (Bool × List ByteArray × List (ByteArray × Bool)))) (rf:List Int) (k:ByteArray) (h:(A5 st k).length≤1000000):w4 (cSt st) pd po rf k=some (am6 st k):=by
 unfold w4 am6
 rw [aM6]
 by_cases h0:0<(A5 st k).length
 ·obtain ⟨s,e1,e2,-⟩:=aR4 h0 h
  rw [decide_eq_true (by simp; omega),j9,e2,e1]; rfl
 ·have:A5 st k=[]:=List.eq_nil_of_length_eq_zero (by omega)
  rw [this]; rfl
theorem aF7 (st:ab7) (pd:List (ByteArray × Int)) (po:List (ByteArray × (Bool × List ByteArray × List (ByteArray × Bool)))) (rf:List Int) (h:∀ k,(A5 st k).length≤1000000) (hl:st.length≤1000000):D1 (cSt st) pd po rf=some (H7 st):=by
 unfold D1
 refine ao0 fun L hL=>?_
 rw [bd7] at hL
 have hLl:L.length=st.length:=by rw [hL.length_eq,List.length_map]
 rw [ag5 _ (fun x=>if am6 st x then some x else none) _ (by
  intro i x s hx hs
  have hi:=(List.getElem?_eq_some_iff.1 hx).1
  unfold af4
  rw [aL1 _ _ _ _ _ (h x),Option.bind_some]
  cases hm:am6 st x
  ·simp
  ·rw [j9,Q7 (by simp; omega) (by omega)]; simp),Option.bind_some,D5]
 have e1:(L.filterMap fun x=>if am6 st x then some x else none)=L.filter (am6 st):=by
  rw [← List.filterMap_eq_filter]
  congr 1
 rw [e1,bk7 _ (Nat.le_trans (List.length_filter_le ..) (by omega)),Option.bind_some,aM4 hL]
 rfl
theorem putS (st:ab7) (k:ByteArray) (r:List Tclub_stay) (r':List Tgleeref2_stay) (h:r'=r.map cS):q9 (cSt st) k r'=cSt (q9 st k r):=by
 subst h; exact ax4 (List.map cS) st k r
theorem bE4 (mo:aB6) (k:ByteArray) (t:bv2) (t':Bool × List ByteArray × List (ByteArray × Bool)) (h:t'=cM t):q9 (cMo mo) k t'=cMo (q9 mo k t):=by
 subst h; exact ax4 cM mo k t
theorem bA5 (r:List Tclub_stay) (a:Int) (s:Tclub_stay) (h:r.getLast? = some s):(r.map cS).set (r.length - 1) ⟨s.since,a,s.cents⟩=(ao3 r a).map cS:=by
 unfold ao3
 rw [h]
 simp only [List.map_set]; rfl
theorem aR6 {V V':Type} (f:V→V') (l:List (ByteArray × V)) (k:ByteArray) (h:G3 l k=true):G3 (mpV f l) k=true:=by rw [aZ2]; exact h
theorem bu0 (st:ab7) (pd:List (ByteArray × Int)) (mo:aB6) (rf:List Int) (x:TAct) (h:∀ k,(A5 st k).length≤1000000) (hl:st.length≤1000000) :
  M4 (cSt st) pd (cMo mo) rf x=some (if perm st mo x=true then (true,cSt (aP8 st pd mo x).1,(aP8 st pd mo x).2.1,cMo (aP8 st pd mo x).2.2) else (false,cSt st,pd,cMo mo)):=by
 unfold M4
 have hm:=aL1 st pd (cMo mo) rf x.Who (h _)
 have hk:lkM (cMo mo) x.Motion=(lkM mo x.Motion).map cM:=ao6 cM mo x.Motion
 have happ:ah3 24 ((A5 st x.Who).map cS) [(Tgleeref2_stay.mk x.At (-1) x.Cents)]=some ((A5 st x.Who++[Tclub_stay.mk x.At (-1) x.Cents]).map cS):=by
  rw [Q7 (by have:=h x.Who; simp; omega) (by omega)]; simp [cS]
 have hput:q9 (cSt st) x.Who ((A5 st x.Who++[Tclub_stay.mk x.At (-1) x.Cents]).map cS)=cSt (q9 st x.Who (A5 st x.Who++[Tclub_stay.mk x.At (-1) x.Cents])):=putS _ _ _ _ rfl
 rw [hm,aM6,happ,hk,aF7 st pd (cMo mo) rf h hl]
 simp only [Option.bind_some,hput]
 -- quitting
 have hq:am6 st x.Who=true→((v8 ((A5 st x.Who).map cS) (w64 ((((A5 st x.Who).map cS).length:Int) - 1))).bind fun e20=>some (true,ab0 (cSt st) x.Who (((A5 st x.Who).map cS).set ((w64 ((((A5 st x.Who).map cS).length:Int) - 1)).toNat) (Tgleeref2_stay.mk e20.from_ x.At e20.cents)),pd,cMo mo))=some (true,cSt (q9 st x.Who (ao3 (A5 st x.Who) x.At)),pd,cMo mo):=by
  intro hmk
  obtain ⟨s,e1,e2,e3,e4⟩:=aN9 hmk
  obtain ⟨s',f1,f2,f3⟩:=aR4 e4 (h x.Who)
  rw [e1] at f1; cases f1
  rw [f2,Option.bind_some,f3,← ai3 (aR6 _ _ _ e3)]
  rw [show (Tgleeref2_stay.mk (cS s).from_ x.At (cS s).cents)=⟨s.since,x.At,s.cents⟩ from rfl,bA5 _ _ _ e1,putS _ _ _ _ rfl]
 unfold perm aP8
 cases h1:x.Kind==1
 case true =>
  cases lkM mo x.Motion <;> cases am6 st x.Who <;> rfl
 cases h2:x.Kind==2
 case true =>
  cases hmk:am6 st x.Who
  ·cases lkM mo x.Motion <;> rfl
  ·have hq:=hq hmk
   cases hlk:lkM mo x.Motion <;> simp only [Option.map_none,Option.map_some,ad4,K4,j4,j9,cond_false,cond_true,Bool.not_true,if_true] <;> exact hq
 cases h3:x.Kind==3
 case true =>
  cases h4:x.Kind==4
  ·cases h5:x.Kind==5
   ·cases h6:x.Kind==6
    ·cases lkM mo x.Motion <;> rfl
    ·simp at h3 h6; omega
   ·simp at h3 h5; omega
  ·simp at h3 h4; omega
 cases h4:x.Kind==4
 case true =>
  cases hlk:lkM mo x.Motion with
  | none =>
   simp only [Option.map_none,ad4,j4,j9,cond_false,cond_true,Option.isNone_none,if_true]
   rw [bE4 mo x.Motion (false,[],[]) (true,[],[]) rfl]
  | some t=>rfl
 cases h5:x.Kind==5
 case true =>
  cases hlk:lkM mo x.Motion with
  | none =>
   have ho:O0 mo x.Motion=false:=by unfold O0; rw [hlk]
   simp only [Option.map_none,ad4,j4,j9,cond_false,cond_true,Option.bind_some,C9,ho,Bool.and_false]; rfl
  | some t =>
   have ho:O0 mo x.Motion = !t.1:=by unfold O0; rw [hlk]
   obtain ⟨t1,t2,t3⟩:=t
   simp only [Option.map_some,K4,j4,j9,cond_false,cond_true,ho,cM]
   cases t1
   ·cases hmk:am6 st x.Who
    ·rfl
    ·simp only [Bool.not_false,Bool.not_true,j4,Option.bind_some,C9,Bool.and_true,if_true]
     rw [← ai3 (aR6 cM mo _ (aO4 hlk)),bE4 mo x.Motion (false,q9 t2 x.Who x.Yes,t3) (true,t3,q9 t2 x.Who x.Yes) rfl]
   ·cases hmk:am6 st x.Who <;> rfl
 cases h6:x.Kind==6
 case true =>
  cases hlk:lkM mo x.Motion with
  | none =>
   have ho:O0 mo x.Motion=false:=by unfold O0; rw [hlk]
   simp only [Option.map_none,ad4,j4,j9,cond_false,cond_true,Option.bind_some,C9,ho]; rfl
  | some t =>
   have ho:O0 mo x.Motion = !t.1:=by unfold O0; rw [hlk]
   obtain ⟨t1,t2,t3⟩:=t
   simp only [Option.map_some,K4,j4,j9,cond_false,cond_true,ho,cM]
   cases t1
   ·simp only [Bool.not_false,Bool.not_true,j4,Option.bind_some,C9,if_true]
    rw [← ai3 (aR6 cM mo _ (aO4 hlk)),bE4 mo x.Motion (true,t2,H7 st) (false,H7 st,t2) rfl]
   ·rfl
 cases lkM mo x.Motion <;> rfl
theorem bV1 (l:List TAct) (s:Bk) (i:Nat) (z:Nat) (x:TAct) (hx:l[z]? = some x) (n:Nat) (h:BOK n s) (hn:n≤100000) :
  Z1 l i (z:Int) (cMo s.mo,s.pd,cSt s.st,s.rf)=some (.nxt (cMo (Y9 s z x).mo,(Y9 s z x).pd,cSt (Y9 s z x).st,(Y9 s z x).rf)):=by
 have hg:v8 l (z:Int)=some x:=Y6 rfl hx
 have hrow:∀ k,(A5 s.st k).length≤1000000:=fun k=>by have:=h.row k; omega
 have hlen:=h.len; have hf:=h.rf
 unfold Z1 Y9
 rw [hg,Option.bind_some,bu0 _ _ _ _ _ hrow (by omega),Option.bind_some]
 cases hp:perm s.st s.mo x
 ·simp only [Bool.false_eq_true,if_false,Bool.not_false,j9]
  rw [Q7 (by simp; omega) (by omega),Option.bind_some]
 ·simp only [if_true,Bool.not_true,j4]
theorem aa0 (l:List TAct) (at_:Int) (hl:ActsOK l):B1 l at_=some (cSt (j7 l at_).st,(j7 l at_).pd,cMo (j7 l at_).mo,(j7 l at_).rf):=by
 have hlen:=hl.len
 have hc:=an9 at_ l 0
 have key:∀ (t:List Int) (i:Nat) (s:Bk) (n:Nat),(∀ z∈t,∃ j:Nat,z=(j:Int)∧j<l.length)→BOK n s→n+t.length≤2000 →
   l8 (Z1 l) i t (cMo s.mo,s.pd,cSt s.st,s.rf)=some (.brk (cMo (t.foldl (ab8 l) s).mo,(t.foldl (ab8 l) s).pd,cSt (t.foldl (ab8 l) s).st,(t.foldl (ab8 l) s).rf)):=by
  intro t
  induction t with
  | nil=>intro i s n _ hb _; rfl
  | cons z t ih =>
   intro i s n hz hb hn
   simp only [List.length_cons] at hn
   obtain ⟨j,rfl,hj⟩:=hz z (List.mem_cons_self ..)
   have hx:l[j]? = some (l[j]'hj):=List.getElem?_eq_getElem hj
   have e1:ab8 l s (j:Int)=Y9 s j (l[j]'hj):=by unfold ab8; rw [Int.toNat_natCast,hx]
   have g1:=ih (i+1) (Y9 s j (l[j]'hj)) (n+1) (fun z hz'=>hz z (List.mem_cons_of_mem _ hz')) (hb.step _ _) (by omega)
   rw [o5,bV1 l s i j _ hx n hb (by omega),Option.bind_some,D8,List.foldl_cons,e1]
   exact g1
 have g1:=key (W7 at_ 0 l) 0 ⟨[],[],[],[]⟩ 0 (fun z hz=>by
  obtain ⟨j,rfl,hj⟩:=aS1 at_ l 0 z hz
  exact ⟨0+j,rfl,by omega⟩) ⟨fun k=>by simp [A5,lkM],by simp,by simp⟩ (by omega)
 unfold B1
 rw [aV2 l at_ hl,Option.bind_some,show (([],[],[],[]) : _ × _ × _ × _)=(cMo [],([]:List (ByteArray × Int)),cSt [],([]:List Int)) from rfl,g1]; rfl
end Go.G
