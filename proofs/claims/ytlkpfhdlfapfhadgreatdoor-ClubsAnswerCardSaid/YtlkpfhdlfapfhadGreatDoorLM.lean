/- LM: maps as lists of entries, in plain Lean; the library's looks by a function. No program in sight. -/
import Derived.Test.YtlkpfhdlfapfhadGreatDoorLS1
import Derived.Test.YtlkpfhdlfapfhadGreatDoorJB
import Derived.Lib.SlicesCompact
namespace Go.G
open Go Go.J
section
variable {K V:Type} [DecidableEq K]
theorem aO0 (L:List (K × V)) (k s:K) (v:V):lkM (q9 L k v) s=if s=k then some v else lkM L s:=by
 unfold q9
 by_cases h:G3 L k=true
 ·rw [if_pos h]
  induction L with
  | nil=>simp [G3] at h
  | cons p L ih =>
   unfold lkM at ih ⊢
   simp only [List.map_cons,List.find?_cons]
   by_cases hp:p.1=k
   ·rw [if_pos hp]
    by_cases hs:s=k
    ·subst hs; simp
    ·have h1:decide (k=s)=false:=decide_eq_false fun e=>hs e.symm
     have h2:decide (p.1=s)=false:=decide_eq_false fun e=>hs (e.symm.trans hp)
     rw [h1,h2,if_neg hs]
     by_cases hL:G3 L k=true
     ·have:=ih hL
      rw [if_neg hs] at this
      exact this
     ·have:L.map (fun p=>if p.1=k then (k,v) else p)=L:=by
       refine (List.map_congr_left fun q hq=>?_).trans (List.map_id L)
       have:q.1≠k:=fun e=>hL ((Y1 L k).2 (List.mem_map.2 ⟨q,hq,e⟩))
       simp [this]
      rw [this]
   ·rw [if_neg hp]
    have hL:G3 L k=true:=by
     rw [Y1] at h ⊢
     simp only [List.map_cons,List.mem_cons] at h
     rcases h with h | h
     ·exact (hp h.symm).elim
     ·exact h
    have:=ih hL
    by_cases hps:p.1=s
    ·have h1:decide (p.1=s)=true:=decide_eq_true hps
     have:s≠k:=fun e=>hp (hps.trans e)
     rw [h1,if_neg this]
    ·have h1:decide (p.1=s)=false:=decide_eq_false hps
     rw [h1]
     exact this
 ·rw [if_neg h]
  have hn:∀ q∈L,q.1≠k:=fun q hq e=>h ((Y1 L k).2 (List.mem_map.2 ⟨q,hq,e⟩))
  unfold lkM
  rw [List.find?_append]
  by_cases hs:s=k
  ·subst hs
   rw [if_pos rfl,List.find?_eq_none.2 (fun q hq=>by simpa using hn q hq)]
   simp
  ·rw [if_neg hs]
   have h1:decide (k=s)=false:=decide_eq_false fun e=>hs e.symm
   cases L.find? (fun p=>decide (p.1=s)) with
   | none=>simp [h1]
   | some q=>simp
theorem bM7 (L:List (K × V)) (k:K):G3 L k=(lkM L k).isSome:=by
 unfold G3 lkM
 rw [Option.isSome_map]
 induction L with
 | nil=>rfl
 | cons p L ih =>
  rw [List.any_cons,List.find?_cons]
  cases decide (p.1=k) with
  | true=>rfl
  | false=>rw [Bool.false_or]; exact ih
end
theorem bQ4 {α : Type} (p : α → Option Bool) (d : α → Bool) (l:List α) (hp:∀ x∈l,p x=some (d x)):(ixM p l).bind (fun y=>some (decide (y≥0)))=some (l.any d):=by
 obtain ⟨n,h1,h2⟩:=bG0 p d l hp
 rw [h1,Option.bind_some]
 rcases h2 with ⟨rfl,h⟩ | ⟨k,rfl,hk,-,x,hx,hd⟩
 ·have:l.any d=false:=List.any_eq_false.2 fun x hx=>by rw [h x hx]; simp
  rw [this]; rfl
 ·have:l.any d=true:=List.any_eq_true.2 ⟨x,List.mem_of_getElem? hx,hd⟩
  rw [this]; simp
end Go.G
