/- Plain laws of the models; no condition beyond what each theorem says. -/
import Derived.Test.YtlkpfhdlfapfhadGreatDoorLG0
/- LG1: numbers drawn from a range. In plain Lean, no program in sight. -/
namespace Go.G
open Go Go.J
theorem aB5 (L:List Int) {p a b:Int} (hp:0≤p) (hp':p≤1000000000) (ha:-1000000000000≤a) (hab:a≤b) (hb:b≤1000000000000) :
  ∃ v,B2 L p a b=some (v,p+1)∧a≤v∧v≤b:=by
 obtain ⟨r,h,h2,h3⟩:=az0 L (n:=b - a+1) hp hp' (by omega)
 have h3:=h3 (by omega)
 refine ⟨a+r,?_,by omega,by omega⟩
 unfold B2
 rw [decide_eq_false (by omega),j4,A0 (n:=b - a) (by omega),A0 (n:=b - a+1) (by omega),h]
 show some (w64 (a+r),p+1)=_
 rw [A0 (by omega)]
end Go.G

/- LG2: strings drawn from some. In plain Lean, no program in sight. -/
namespace Go.G
open Go Go.J
theorem aI2 (L:List Int) {p:Int} (xs:List ByteArray) (hp:0≤p) (hp':p≤1000000000) (hx:xs.length≠0) (hx':(xs.length:Int)≤4611686018427387904) :
  ∃ v,n7 L p xs=some (v,p+1)∧v∈xs:=by
 obtain ⟨r,h,h2,h3⟩:=az0 L (n:=xs.length) hp hp' hx'
 have h3:=h3 (by omega)
 have h4:r.toNat<xs.length:=by omega
 refine ⟨xs[r.toNat],?_,List.getElem_mem h4⟩
 unfold n7
 rw [h]
 show (v8 xs r).bind _=_
 rw [Y6 (n:=r.toNat) (by omega) (List.getElem?_eq_getElem h4)]; rfl
end Go.G

