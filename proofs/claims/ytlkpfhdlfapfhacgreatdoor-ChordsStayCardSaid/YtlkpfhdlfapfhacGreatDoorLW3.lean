/- LW3: Way goes the fewest steps, and nothing is broken in it. In plain Lean, no program in sight. -/
import Derived.Test.YtlkpfhdlfapfhacGreatDoorLW2
namespace Go.G
open Go Go.J
set_option linter.unusedSimpArgs false
structure WayW (f:List TFollow) (m:List (TChord × Int)) (a:TChord) (n:Nat) (k:Nat) (w:List TChord):Prop where
 len:w.length=k+1
 kn:k≤n
 fst:w[0]? = some a
 on:∀ i,i≤k→∃ x,w[i]? = some x∧x∈allW∧lkM m x=some ((n:Int) - i)
 ch:∀ i x y,w[i]? = some x→w[i+1]? = some y→mayB f x y=true
end Go.G
