/- LG2: strings drawn from some. In plain Lean, no program in sight. -/
import Derived.Test.YtlkpfhdlfapfhaaGreatDoorLG0
namespace Go.G
open Go Go.J
theorem Some_spec (L:List Int) {p:Int} (xs:List ByteArray) (hp:0≤p) (hp':p≤1000000000) (hx:xs.length≠0) (hx':(xs.length:Int)≤4611686018427387904) :
  ∃ v,m_gleemake_Stream_Some L p xs=some (v,p+1)∧v∈xs:=by
 obtain ⟨r,h,h2,h3⟩:=Next_spec L (n:=xs.length) hp hp' hx'
 have h3:=h3 (by omega)
 have h4:r.toNat<xs.length:=by omega
 refine ⟨xs[r.toNat],?_,List.getElem_mem h4⟩
 unfold m_gleemake_Stream_Some
 rw [h]
 show (getI xs r).bind _=_
 rw [getI_of (n:=r.toNat) (by omega) (List.getElem?_eq_getElem h4)]; rfl
end Go.G
