/- LX0: what is spoiled; what is equal to itself. In plain Lean, no program in sight. -/
import Derived.Test.YtlkpfhdlfapfhacGreatDoorLG0
namespace Go.G
open Go Go.J
set_option linter.unusedSimpArgs false
theorem spoil_tot {α : Type} (z : α) (step:Nat → α → List α → Option (Flow (List α) (List α))) (hst:∀ i x u,step i x u=(getI u (i:Int)).bind fun _=>some (.nxt (u.set ((i:Int).toNat) z))) (l:List α):∃ r,((rangeM step 0 l l).bind fun f=>Flow.fin f fun u=>some u)=some r:=by
 obtain ⟨u,h1,h2⟩:=rangeM_invx step l (fun _ u=>u.length=l.length) (by
  intro i x u hx hu
  have hi:=(List.getElem?_eq_some_iff.1 hx).1
  rw [hst,getI_of rfl (List.getElem?_eq_getElem (by omega)),Option.bind_some]
  exact ⟨_,rfl,by rw [List.length_set]; exact hu⟩) l rfl
 exact ⟨u,by rw [h1]; rfl⟩
theorem eq_refl {α : Type} (step:Nat → α → Unit→Option (Flow Unit Bool)) (l:List α) (h:∀ (i:Nat) x,l[i]? = some x→step i x ()=some (.nxt ())):(ifB ((l.length:Int) != (l.length:Int)) (some false) ((rangeM step 0 l ()).bind fun f7=>Flow.fin f7 fun _=>some true))=some true:=by
 rw [show ((l.length:Int) != (l.length:Int))=false from bne_self_eq_false _,ifB_false]
 obtain ⟨s,h1,-⟩:=rangeM_invx step l (fun _ _=>True) (fun i x s hx _=>⟨(),h i x hx,trivial⟩) () trivial
 rw [h1]; rfl
end Go.G
