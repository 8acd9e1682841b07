/- Plain laws of the models; no condition beyond what each theorem says. -/
import Derived.Test.YtlkpfhdlfapfhacGreatDoorLG1
import Derived.Test.YtlkpfhdlfapfhacGreatDoorLG2
/- LDr: drawing, step by step, with nothing but where the drawing stands. In plain Lean, no program in sight. -/
namespace Go.G
open Go Go.J
section
variable {β : Type} {Q : β → Prop} {L:List Int} {k p n:Int}
end
end Go.G

/- LDo: numbers drawn that are nearly always within a range. In plain Lean, no program in sight. -/
namespace Go.G
open Go Go.J
theorem Odd_spec (L:List Int) {p a b:Int} (hp:0≤p) (hp':p≤999999998) (ha:-1000000000000≤a) (hab:a≤b) (hb:b≤1000000000000):∃ v q,m_gleemake_Stream_Odd L p a b=some (v,q)∧q=p+2:=by
 unfold m_gleemake_Stream_Odd
 obtain ⟨c,h1⟩:=Flip_spec L (p:=p) (n:=12) hp (by omega) (by omega)
 rw [h1,Option.bind_some]
 cases c
 ·obtain ⟨v,h2,-,-⟩:=Range_spec L (p:=p+1) (a:=a) (b:=b) (by omega) (by omega) ha hab hb
  simp only [ifB_false]
  rw [h2]; exact ⟨v,_,rfl,by omega⟩
 ·obtain ⟨v,h2,-⟩:=Pick_spec L (p:=p+1) [w64 (a - 1),w64 (b+1),a,b,(-1099511627776),1099511627776] (by omega) (by omega) (by simp) (by simp)
  simp only [ifB_true]
  rw [h2]; exact ⟨v,_,rfl,by omega⟩
end Go.G

