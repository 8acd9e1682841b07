/- LG0: what is drawn. In plain Lean, no program in sight. -/
import Derived.Test.YtlkpfhdlfapfhadGreatDoorL0
import Derived.Test.YtlkpfhdlfapfhadGreatDoorM
namespace Go.G
open Go Go.J
theorem aL7 (a:Int) {n:Int} (hn:n≤4611686018427387904):∃ r,J6 a n=some r∧0≤r∧(1≤n→r<n)∧r≤4611686018427387904:=by
 unfold J6
 by_cases h:n<1
 ·exact ⟨0,by simp [h],by omega,by omega,by omega⟩
 ·have hn0:n≠0:=by omega
  have h1:a.tmod n<n:=Int.tmod_lt_of_pos a (by omega)
  have h2:-n<a.tmod n:=Int.lt_tmod_of_pos a (by omega)
  by_cases hz:a.tmod n<0
  ·refine ⟨a.tmod n+n,?_,by omega,by omega,by omega⟩
   rw [decide_eq_false h,j4,aG9 hn0]
   show ifB (decide (a.tmod n<0)) _ _=_
   rw [decide_eq_true hz,j9,A0 (by omega)]
  ·refine ⟨a.tmod n,?_,by omega,by omega,by omega⟩
   rw [decide_eq_false h,j4,aG9 hn0]
   show ifB (decide (a.tmod n<0)) _ _=_
   rw [decide_eq_false hz,j4]
theorem az0 (L:List Int) {p n:Int} (hp:0≤p) (hp':p≤1000000000) (hn:n≤4611686018427387904) :
  ∃ r,A4 L p n=some (r,p+1)∧0≤r∧(1≤n→r<n):=by
 unfold A4
 rw [A0 (n:=p+1) (by omega)]
 by_cases hL:(L.length:Int)=0
 ·obtain ⟨r,h1,h2,h3,-⟩:=aL7 (w64 ((p+1)*7919)) hn
  exact ⟨r,by rw [hL]; simp [h1],h2,h3⟩
 ·have hb:((L.length:Int)==0)=false:=by simpa using hL
  rw [hb,j4,A0 (n:=p+1 - 1) (by omega),aG9 hL,aV3 hL]
  have hpp:p+1 - 1=p:=by omega
  rw [hpp]
  have hpos:(0:Int)<L.length:=by omega
  have h1:p.tmod L.length<L.length:=Int.tmod_lt_of_pos p hpos
  have h2:0≤p.tmod L.length:=Int.tmod_nonneg _ hp
  obtain ⟨x,hx⟩:∃ x,v8 L (p.tmod L.length)=some x:=by
   have h3:(p.tmod L.length).toNat<L.length:=by omega
   exact ⟨L[(p.tmod L.length).toNat],Y6 (n:=(p.tmod L.length).toNat) (by omega) (List.getElem?_eq_getElem h3)⟩
  obtain ⟨y,hy,-⟩:=aL7 x (n:=1073741824) (by omega)
  obtain ⟨r,h1,h2,h3,-⟩:=aL7 (w64 (y+w64 (w64 (p.tdiv L.length)*w64 (7919+p.tmod L.length)))) hn
  refine ⟨r,?_,h2,h3⟩
  show (v8 L (p.tmod L.length)).bind _=_
  rw [hx]
  show (J6 x 1073741824).bind _=_
  rw [hy]
  show (J6 _ n).bind _=_
  rw [h1]; rfl
theorem aS5 (L:List Int) {p n:Int} (hp:0≤p) (hp':p≤1000000000) (hn:n≤4611686018427387904) :
  ∃ b,B7 L p n=some (b,p+1):=by
 obtain ⟨r,h,-⟩:=az0 L hp hp' hn
 exact ⟨_,by unfold B7; rw [h]; rfl⟩
theorem aS3 (L:List Int) {p:Int} (xs:List Int) (hp:0≤p) (hp':p≤1000000000) (hx:xs.length≠0) (hx':(xs.length:Int)≤4611686018427387904) :
  ∃ v,w5 L p xs=some (v,p+1)∧v∈xs:=by
 obtain ⟨r,h,h2,h3⟩:=az0 L (n:=xs.length) hp hp' hx'
 have h3:=h3 (by omega)
 have h4:r.toNat<xs.length:=by omega
 refine ⟨xs[r.toNat],?_,List.getElem_mem h4⟩
 unfold w5
 rw [h]
 show (v8 xs r).bind _=_
 rw [Y6 (n:=r.toNat) (by omega) (List.getElem?_eq_getElem h4)]; rfl
end Go.G
