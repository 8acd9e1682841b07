/- Plain laws of the models; no condition beyond what each theorem says. -/
import Derived.Test.YtlhfimbpjdfdgacGreatDoorLS1
import Derived.Test.YtlhfimbpjdfdgacGreatDoorJB
import Derived.Lib.SlicesCompact
namespace Go.G
open Go Go.J
section
variable {K V : Type} [DecidableEq K]
theorem lkM_put (L : List (K × V)) (k s : K) (v : V) : lkM (putM L k v) s = if s = k then some v else lkM L s := by
 unfold putM
 by_cases h : hasM L k = true
 ·rw [if_pos h]
  induction L with
  | nil => simp [hasM] at h
  | cons p L ih =>
   unfold lkM at ih ⊢
   simp only [List.map_cons, List.find?_cons]
   by_cases hp : p.1 = k
   ·rw [if_pos hp]
    by_cases hs : s = k
    ·subst hs; simp
    ·have h1 : decide (k = s) = false := decide_eq_false fun e => hs e.symm
     have h2 : decide (p.1 = s) = false := decide_eq_false fun e => hs (e.symm.trans hp)
     rw [h1, h2, if_neg hs]
     by_cases hL : hasM L k = true
     ·have := ih hL
      rw [if_neg hs] at this
      exact this
     ·have : L.map (fun p => if p.1 = k then (k, v) else p) = L := by
       refine (List.map_congr_left fun q hq => ?_).trans (List.map_id L)
       have : q.1 ≠ k := fun e => hL ((hasM_iff L k).2 (List.mem_map.2 ⟨q, hq, e⟩))
       simp [this]
      rw [this]
   ·rw [if_neg hp]
    have hL : hasM L k = true := by
     rw [hasM_iff] at h ⊢
     simp only [List.map_cons, List.mem_cons] at h
     rcases h with h | h
     ·exact (hp h.symm).elim
     ·exact h
    have := ih hL
    by_cases hps : p.1 = s
    ·have h1 : decide (p.1 = s) = true := decide_eq_true hps
     have : s ≠ k := fun e => hp (hps.trans e)
     rw [h1, if_neg this]
    ·have h1 : decide (p.1 = s) = false := decide_eq_false hps
     rw [h1]
     exact this
 ·rw [if_neg h]
  have hn : ∀ q ∈ L, q.1 ≠ k := fun q hq e => h ((hasM_iff L k).2 (List.mem_map.2 ⟨q, hq, e⟩))
  unfold lkM
  rw [List.find?_append]
  by_cases hs : s = k
  ·subst hs
   rw [if_pos rfl, List.find?_eq_none.2 (fun q hq => by simpa using hn q hq)]
   simp
  ·rw [if_neg hs]
   have h1 : decide (k = s) = false := decide_eq_false fun e => hs e.symm
   cases L.find? (fun p => decide (p.1 = s)) with
   | none => simp [h1]
   | some q => simp
end
end Go.G
