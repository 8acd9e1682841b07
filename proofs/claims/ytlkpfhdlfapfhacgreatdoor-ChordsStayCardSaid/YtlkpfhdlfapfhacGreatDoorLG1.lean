/- LG1: numbers drawn from a range. In plain Lean, no program in sight. -/
import Derived.Test.YtlkpfhdlfapfhacGreatDoorLG0
namespace Go.G
open Go Go.J
theorem Range_spec (L:List Int) {p a b:Int} (hp:0≤p) (hp':p≤1000000000) (ha:-1000000000000≤a) (hab:a≤b) (hb:b≤1000000000000) :
  ∃ v,m_gleemake_Stream_Range L p a b=some (v,p+1)∧a≤v∧v≤b:=by
 obtain ⟨r,h,h2,h3⟩:=Next_spec L (n:=b - a+1) hp hp' (by omega)
 have h3:=h3 (by omega)
 refine ⟨a+r,?_,by omega,by omega⟩
 unfold m_gleemake_Stream_Range
 rw [decide_eq_false (by omega),ifB_false,w64_id (n:=b - a) (by omega),w64_id (n:=b - a+1) (by omega),h]
 show some (w64 (a+r),p+1)=_
 rw [w64_id (by omega)]
end Go.G
