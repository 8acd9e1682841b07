/- LCs: ClubsStay's law. In plain Lean, no program in sight. -/
import Derived.Test.YtlkpfhdlfapfhadGreatDoorLY6n
import Derived.Test.YtlkpfhdlfapfhadGreatDoorLYo
import Derived.Test.YtlkpfhdlfapfhadGreatDoorLAr
import Derived.Test.YtlkpfhdlfapfhadGreatDoorLR1f
import Derived.Test.YtlkpfhdlfapfhadGreatDoorLS1
import Derived.Lib.ItoaLen
namespace Go.G
open Go Go.J
set_option linter.unusedSimpArgs false
set_option linter.unusedVariables false
structure BInv (s:Bk):Prop where
 st:∀ k,∀ y∈A5 s.st k,0≤y.since∧y.since≤345686399999
 mo:∀ p∈s.mo,p.1.size≤40
theorem bn5 {K V:Type} [DecidableEq K] {l:List (K × V)} {k:K} {v:V} {p:K × V} (h:p∈q9 l k v):p.1=k∨p∈l:=by
 unfold q9 at h
 split at h
 ·obtain ⟨q,hq,e⟩:=List.mem_map.1 h
  split at e
  ·left; rw [← e]
  ·right; rw [← e]; exact hq
 ·rcases List.mem_append.1 h with h | h
  ·exact .inr h
  ·simp only [List.mem_singleton] at h; left; rw [h]
theorem bF6 {k:ByteArray} (h:T5 k=true):k.size≤40:=by
 unfold T5 at h
 simp only [Bool.and_eq_true,decide_eq_true_eq] at h
 exact h.1.1.2
theorem bJ5 {x:TAct} (h:ai1 x=0) (hk:x.Kind=4):T5 x.Motion=true:=by
 unfold ai1 at h
 rw [hk] at h
 cases h1:T5 x.Site
 ·rw [h1] at h; cases h
 cases h2:inR x.No 1 1000000
 ·rw [h1,h2] at h; cases h
 cases h3:an7 x.At
 ·rw [h1,h2,h3] at h; cases h
 cases h4:T5 x.Motion
 ·rw [h1,h2,h3,h4] at h; cases h
 ·rfl
theorem BInv.step {s:Bk} (h:BInv s) (z:Int) (x:TAct) (hx:ai1 x=0):BInv (Y9 s z x):=by
 obtain ⟨-,-,hat,-⟩:=aP7 hx
 unfold Y9
 split
 ·unfold aP8
  cases h1:x.Kind==1
  case true =>
   simp only [cond_true]
   refine ⟨fun k y hy=>?_,h.mo⟩
   rw [ar8] at hy
   split at hy
   ·rcases List.mem_append.1 hy with hy | hy
    ·exact h.st _ y hy
    ·simp only [List.mem_singleton] at hy; rw [hy]; exact hat
   ·exact h.st _ y hy
  simp only [cond_false]
  cases h2:x.Kind==2
  case true =>
   simp only [cond_true]
   refine ⟨fun k y hy=>?_,h.mo⟩
   rw [ar8] at hy
   split at hy
   ·unfold ao3 at hy
    split at hy
    ·rename_i s' hs'
     rcases List.mem_or_eq_of_mem_set hy with hy | hy
     ·exact h.st _ y hy
     ·rw [hy]; exact h.st _ s' (List.mem_of_getLast? hs')
    ·exact h.st _ y hy
   ·exact h.st _ y hy
  simp only [cond_false]
  cases h3:x.Kind==3
  case true=>exact ⟨h.st,h.mo⟩
  simp only [cond_false]
  cases h4:x.Kind==4
  case true =>
   simp only [cond_true]
   refine ⟨h.st,fun p hp=>?_⟩
   rcases bn5 hp with e | hp
   ·rw [e]; exact bF6 (bJ5 hx (by simpa using h4))
   ·exact h.mo p hp
  simp only [cond_false]
  cases hl:lkM s.mo x.Motion with
  | none=>exact ⟨h.st,h.mo⟩
  | some t =>
   have hk:x.Motion.size≤40:=h.mo _ (av3 hl)
   have put:∀ u:bv2,BInv ⟨s.st,s.pd,q9 s.mo x.Motion u,s.rf⟩:=fun u=>⟨h.st,fun p hp=>by
    rcases bn5 hp with e | hp
    ·rw [e]; exact hk
    ·exact h.mo p hp⟩
   simp only
   cases h5:x.Kind==5
   case true=>exact put _
   simp only [cond_false]
   cases h6:x.Kind==6
   case true=>exact put _
   exact ⟨h.st,h.mo⟩
 ·exact ⟨h.st,h.mo⟩
theorem be9 (l:List TAct) (at_:Int) (hl:ActsOK l):BInv (j7 l at_):=by
 have key:∀ (t:List Int) (s:Bk),BInv s→BInv (t.foldl (ab8 l) s):=by
  intro t
  induction t with
  | nil=>intro s h; exact h
  | cons z t ih =>
   intro s h
   rw [List.foldl_cons]
   refine ih _ ?_
   unfold ab8
   split
   ·rename_i x hx
    exact h.step _ _ (hl.ok x (List.mem_of_getElem? hx))
   ·exact h
 exact key _ _ ⟨fun k y hy=>by simp [A5,lkM] at hy,by simp⟩
theorem E4 {a b:ByteArray} (h:a.size+b.size≤9223372036854775807):F8 a b=some (a++b):=by unfold F8; rw [if_pos h]
theorem A9 (a b:ByteArray):(a++b).size=a.size+b.size:=by simp
theorem bJ9 {t:Int} (h:-9223372036854775808≤t∧t≤9223372036854775807):∃ y,l2 t=some y∧y.size≤21:=by
 unfold l2
 rw [if_pos h]
 refine ⟨_,rfl,?_⟩
 rw [N6]
 exact Lib.itoa_length_le t h.1 h.2
end Go.G
