/- LYd: what is due and what was paid: bounds that the books keep. In plain Lean, no program in sight. -/
import Derived.Test.YtlkpfhdlfapfhadGreatDoorLY6
import Derived.Test.YtlkpfhdlfapfhadGreatDoorLAc
import Derived.Test.YtlkpfhdlfapfhadGreatDoorLYq
namespace Go.G
open Go Go.J
set_option linter.unusedSimpArgs false
set_option linter.unusedVariables false
def bobA:ByteArray:=ByteArray.mk [98,111,98].toArray
def cidA:ByteArray:=ByteArray.mk [99,105,100].toArray
def aX1:List ByteArray:=[bk6,bobA,cidA]
theorem bf4 {k:ByteArray} (h:k∈ax1) (hk:T5 k=true):k∈aX1:=by
 unfold ax1 at h
 simp only [List.mem_cons,List.not_mem_nil,or_false] at h
 unfold aX1
 rcases h with rfl | rfl | rfl | rfl
 ·exact List.mem_cons_self ..
 ·exact List.mem_cons_of_mem _ (List.mem_cons_self ..)
 ·exact List.mem_cons_of_mem _ (List.mem_cons_of_mem _ (List.mem_cons_self ..))
 ·exact absurd hk (by rw [show T5 ByteArray.empty=false from rfl]; simp)
structure PInv (T:Int) (n:Nat) (s:Bk):Prop where
 pk:(s.pd.map Prod.fst).Nodup
 pv:∀ p∈s.pd,p.1∈aX1∧0≤p.2∧p.2≤1000000000*(n:Int)
 sk:(s.st.map Prod.fst).Nodup
 sm:∀ p∈s.st,p.1∈aX1
 sr:∀ k,∀ y∈A5 s.st k,0≤y.since∧y.since≤T∧(y.till = -1∨y.since≤y.till∧y.till≤T)∧0≤y.cents∧y.cents≤1000000000
theorem aQ5 {K V:Type} [DecidableEq K] {l:List (K × V)} {k:K} {v:V} {p:K × V} (h:p∈q9 l k v):p=(k,v)∨p∈l:=by
 unfold q9 at h
 split at h
 ·obtain ⟨q,hq,e⟩:=List.mem_map.1 h
  split at e
  ·left; rw [← e]
  ·right; rw [← e]; exact hq
 ·rcases List.mem_append.1 h with h | h
  ·exact .inr h
  ·simp only [List.mem_singleton] at h; left; exact h
theorem bk3 {b:Bool} {n e:Int} (hn:n≠0) (h:(bif b then n else e)=0):b=false∧e=0:=by
 cases b
 ·exact ⟨rfl,h⟩
 ·exact absurd h hn
theorem ba2 {x:TAct} (h:ai1 x=0) (hk:as1 x.Kind=true):T5 x.Who=true:=by
 unfold ai1 at h
 obtain ⟨-,h⟩:=bk3 (by omega) h
 obtain ⟨-,h⟩:=bk3 (by omega) h
 obtain ⟨-,h⟩:=bk3 (by omega) h
 obtain ⟨c,h⟩:=bk3 (by omega) h
 rw [hk] at c
 cases h5:T5 x.Who
 ·rw [h5] at c; simp at c
 ·rfl
theorem ba3 {x:TAct} (h:ai1 x=0) (hk:aj3 x.Kind=true):0≤x.Cents∧x.Cents≤1000000000:=by
 unfold ai1 at h
 obtain ⟨-,h⟩:=bk3 (by omega) h
 obtain ⟨-,h⟩:=bk3 (by omega) h
 obtain ⟨-,h⟩:=bk3 (by omega) h
 obtain ⟨-,h⟩:=bk3 (by omega) h
 obtain ⟨c,h⟩:=bk3 (by omega) h
 rw [hk] at c
 have hc:inR x.Cents (bif x.Kind==3 then 1 else 0) 1000000000=true:=by
  cases h5:inR x.Cents (bif x.Kind==3 then 1 else 0) 1000000000
  ·rw [h5] at c; simp at c
  ·rfl
 unfold inR at hc
 have:=of_decide_eq_true hc
 cases h3:(x.Kind==3) <;> rw [h3] at this <;> simp only [cond_true,cond_false] at this <;> omega
theorem PInv.step {T:Int} {n:Nat} {s:Bk} (h:PInv T n s) (hn:n≤2000) (z:Int) (x:TAct) (hx:ai1 x=0) (hw:x.Who∈ax1) (hT:T≤x.At):PInv x.At (n+1) (Y9 s z x):=by
 obtain ⟨-,-,hat,-⟩:=aP7 hx
 have hup:∀ y:Tclub_stay,(0≤y.since∧y.since≤T∧(y.till = -1∨y.since≤y.till∧y.till≤T)∧0≤y.cents∧y.cents≤1000000000)→0≤y.since∧y.since≤x.At∧(y.till = -1∨y.since≤y.till∧y.till≤x.At)∧0≤y.cents∧y.cents≤1000000000:=fun y hy=>by omega
 have hpv:∀ p∈s.pd,p.1∈aX1∧0≤p.2∧p.2≤1000000000*((n+1:Nat):Int):=fun p hp=>by
  have:=h.pv p hp
  exact ⟨this.1,this.2.1,by omega⟩
 have hsr:∀ k,∀ y∈A5 s.st k,0≤y.since∧y.since≤x.At∧(y.till = -1∨y.since≤y.till∧y.till≤x.At)∧0≤y.cents∧y.cents≤1000000000:=fun k y hy=>hup y (h.sr k y hy)
 have base:∀ mo rf,PInv x.At (n+1) ⟨s.st,s.pd,mo,rf⟩:=fun mo rf=>⟨h.pk,hpv,h.sk,h.sm,hsr⟩
 unfold Y9
 split
 ·rename_i hp
  unfold aP8
  cases h1:x.Kind==1
  case true =>
   have hk:x.Who∈aX1:=bf4 hw (ba2 hx (by unfold as1; rw [h1]; rfl))
   have hc:=ba3 hx (by unfold aj3; rw [h1]; rfl)
   simp only [cond_true]
   refine ⟨h.pk,hpv,az4 h.sk _ _,fun p hp=>?_,fun k y hy=>?_⟩
   ·rcases aQ5 hp with e | hp
    ·rw [e]; exact hk
    ·exact h.sm p hp
   ·rw [ar8] at hy
    split at hy
    ·rcases List.mem_append.1 hy with hy | hy
     ·exact hsr _ y hy
     ·simp only [List.mem_singleton] at hy
      rw [hy]
      exact ⟨hat.1,Int.le_refl _,.inl rfl,hc⟩
    ·exact hsr _ y hy
  simp only [cond_false]
  cases h2:x.Kind==2
  case true =>
   have hk:x.Who∈aX1:=bf4 hw (ba2 hx (by unfold as1; rw [h2]; simp))
   simp only [cond_true]
   refine ⟨h.pk,hpv,az4 h.sk _ _,fun p hp=>?_,fun k y hy=>?_⟩
   ·rcases aQ5 hp with e | hp
    ·rw [e]; exact hk
    ·exact h.sm p hp
   ·rw [ar8] at hy
    split at hy
    ·unfold ao3 at hy
     split at hy
     ·rename_i s' hs'
      have hs2:=h.sr _ s' (List.mem_of_getLast? hs')
      rcases List.mem_or_eq_of_mem_set hy with hy | hy
      ·exact hsr _ y hy
      ·rw [hy]
       exact ⟨hs2.1,by simp only; omega,.inr ⟨by simp only; omega,Int.le_refl _⟩,hs2.2.2.2⟩
     ·exact hsr _ y hy
    ·exact hsr _ y hy
  simp only [cond_false]
  cases h3:x.Kind==3
  case true =>
   have hk:x.Who∈aX1:=bf4 hw (ba2 hx (by unfold as1; rw [h3]; simp))
   have hc:=ba3 hx (by unfold aj3; rw [h3]; simp)
   simp only [cond_true]
   refine ⟨az4 h.pk _ _,fun p hp=>?_,h.sk,h.sm,hsr⟩
   rcases aQ5 hp with e | hp
   ·rw [e]
    have ho:0≤(lkM s.pd x.Who).getD 0∧(lkM s.pd x.Who).getD 0≤1000000000*(n:Int):=by
     cases hl:lkM s.pd x.Who with
     | none=>simp only [Option.getD_none]; omega
     | some v=>exact (h.pv _ (av3 hl)).2
    refine ⟨hk,?_,?_⟩ <;> simp only <;> rw [A0 (by omega)] <;> omega
   ·exact hpv p hp
  simp only [cond_false]
  cases h4:x.Kind==4
  case true=>exact base _ _
  simp only [cond_false]
  cases hl:lkM s.mo x.Motion with
  | none=>exact base _ _
  | some t =>
   simp only
   cases h5:x.Kind==5
   case true=>exact base _ _
   simp only [cond_false]
   cases h6:x.Kind==6
   case true=>exact base _ _
   exact base _ _
 ·exact base _ _
theorem bH7 (a:Int):∀ (t:List TAct) (i:Nat),(W7 a i t).Pairwise (· < ·):=by
 intro t
 induction t with
 | nil=>intro i; exact .nil
 | cons x t ih =>
  intro i
  unfold W7
  cases cnt a x t
  ·exact ih (i+1)
  ·simp only [cond_true,List.cons_append,List.nil_append,List.pairwise_cons]
   refine ⟨fun z hz=>?_,ih (i+1)⟩
   obtain ⟨j,rfl,-⟩:=aS1 a t (i+1) z hz
   omega
theorem bH8 (a:Int):∀ (t:List TAct) (i:Nat) (z:Int),z∈W7 a i t→∃ (j:Nat) (x:TAct),z=(i+j:Nat)∧t[j]? = some x∧x.At≤a:=by
 intro t
 induction t with
 | nil=>intro i z hz; cases hz
 | cons x t ih =>
  intro i z hz
  unfold W7 at hz
  rcases List.mem_append.1 hz with h | h
  ·cases hc:cnt a x t
   ·rw [hc] at h; cases h
   ·rw [hc] at h
    simp only [cond_true,List.mem_singleton] at h
    unfold cnt at hc
    rw [Bool.and_eq_true,decide_eq_true_eq] at hc
    exact ⟨0,x,by simpa using h,rfl,hc.1⟩
  ·obtain ⟨j,y,rfl,hj,hy⟩:=ih (i+1) z h
   exact ⟨j+1,y,by congr 1; omega,by simpa using hj,hy⟩
theorem bu9 (l:List TAct) (a:Int) (hok:ActsOK l) (hw:∀ x∈l,x.Who∈ax1) (ha:0≤a):PInv a 2000 (j7 l a):=by
 have hpw:=bE8 hok.ord
 have hlen:=hok.len
 have key:∀ (t:List Int) (s:Bk) (n:Nat) (T:Int),(∀ z∈t,∃ (j:Nat) (x:TAct),z=(j:Int)∧l[j]? = some x∧x.At≤a∧T≤x.At)→t.Pairwise (· < ·)→PInv T n s→T≤a→n+t.length≤2000→∃ T',T'≤a∧PInv T' (n+t.length) (t.foldl (ab8 l) s):=by
  intro t
  induction t with
  | nil=>intro s n T _ _ h hT _; exact ⟨T,hT,h⟩
  | cons z t ih =>
   intro s n T hz hp h hT hn
   simp only [List.length_cons] at hn
   obtain ⟨j,x,rfl,hx,hxa,hTx⟩:=hz z (List.mem_cons_self ..)
   rw [List.pairwise_cons] at hp
   have e1:ab8 l s (j:Int)=Y9 s j x:=by unfold ab8; rw [Int.toNat_natCast,hx]
   obtain ⟨T',g1,g2⟩:=ih (Y9 s j x) (n+1) x.At (fun z' hz'=>by
    obtain ⟨j',x',rfl,hx',hxa',-⟩:=hz z' (List.mem_cons_of_mem _ hz')
    refine ⟨j',x',rfl,hx',hxa',?_⟩
    have hlt:=hp.1 _ hz'
    obtain ⟨h1,rfl⟩:=List.getElem?_eq_some_iff.1 hx
    obtain ⟨h2,rfl⟩:=List.getElem?_eq_some_iff.1 hx'
    exact List.pairwise_iff_getElem.1 hpw j j' h1 h2 (by omega)) hp.2 (h.step (by omega) j x (hok.ok x (List.mem_of_getElem? hx)) (hw x (List.mem_of_getElem? hx)) hTx) hxa (by omega)
   refine ⟨T',g1,?_⟩
   rw [List.foldl_cons,e1,List.length_cons,show n+(t.length+1)=n+1+t.length by omega]
   exact g2
 have hc:=an9 a l 0
 obtain ⟨T',g1,g2⟩:=key (W7 a 0 l) ⟨[],[],[],[]⟩ 0 0 (fun z hz=>by
  obtain ⟨j,x,rfl,hx,hxa⟩:=bH8 a l 0 z hz
  obtain ⟨-,-,hat,-⟩:=aP7 (hok.ok x (List.mem_of_getElem? hx))
  exact ⟨0+j,x,rfl,by simpa using hx,hxa,hat.1⟩) (bH7 a l 0) ⟨by simp,by simp,by simp,by simp,fun k y hy=>by simp [A5,lkM] at hy⟩ ha (by omega)
 refine ⟨g2.pk,fun p hp=>?_,g2.sk,g2.sm,fun k y hy=>?_⟩
 ·have:=g2.pv p hp
  exact ⟨this.1,this.2.1,by omega⟩
 ·have:=g2.sr k y hy
  omega
end Go.G
