/- LYq: right acts rise. In plain Lean, no program in sight. -/
import Derived.Test.YtlkpfhdlfapfhadGreatDoorLY6
namespace Go.G
open Go Go.J
set_option linter.unusedSimpArgs false
theorem bO3 {x y:TAct} (h:aD9 x y<0):x.At≤y.At:=by
 unfold aD9 at h
 by_cases h1:x.At≤y.At
 ·exact h1
 ·have:cI x.At y.At=1:=by unfold cI; rw [decide_eq_false (by omega),decide_eq_true (by omega)]; rfl
  rw [this] at h
  rw [show ((1:Int) != 0)=true from rfl,cond_true] at h
  omega
theorem bE8 {l:List TAct} (h:∀ (i:Nat) x y,l[i]? = some x→l[i+1]? = some y→aD9 x y<0):l.Pairwise (fun x y=>x.At≤y.At):=by
 induction l with
 | nil=>exact .nil
 | cons x t ih =>
  have ht:=ih fun i a b ha hb=>h (i+1) a b (by simpa using ha) (by simpa using hb)
  rw [List.pairwise_cons]
  refine ⟨fun y hy=>?_,ht⟩
  cases t with
  | nil=>cases hy
  | cons z t =>
   have hz:=bO3 (h 0 x z rfl rfl)
   rcases List.mem_cons.1 hy with rfl | hy
   ·exact hz
   ·have:=(List.pairwise_cons.1 ht).1 y hy
    omega
end Go.G
