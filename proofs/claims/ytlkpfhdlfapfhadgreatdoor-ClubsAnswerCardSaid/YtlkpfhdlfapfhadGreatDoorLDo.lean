/- Plain laws of the models; no condition beyond what each theorem says. -/
import Derived.Test.YtlkpfhdlfapfhadGreatDoorLG2
/- LDr: drawing, step by step, with nothing but where the drawing stands. In plain Lean, no program in sight. -/
namespace Go.G
open Go Go.J
def OKp (k p:Int):Prop:=0≤p∧p≤k
section
variable {β : Type} {Q : β → Prop} {L:List Int} {k p n:Int}
theorem bZ0 {b:Bool} {x y:Option β} (h1:∃ r,x=some r∧Q r) (h2:∃ r,y=some r∧Q r):∃ r,ifB b x y=some r∧Q r:=by cases b <;> assumption
theorem bV2 {α : Type} {e:Option (α ⊕ β)} {F : α → Option β} (h:∃ r,e=some r∧∃ s,r = .inl s∧∃ r',F s=some r'∧Q r'):∃ r',(e.bind fun k=>Sum.fin k F)=some r'∧Q r':=by
 obtain ⟨r,rfl,s,rfl,r',h1,h2⟩:=h
 exact ⟨r',h1,h2⟩
theorem bV3 {α : Type} {b:Nat} {xs ys:List α} {F:List α → Option β} (h:(xs.length+ys.length)*b≤140737488355328) (hb:0<b) (hf:∃ r,F (xs++ys)=some r∧Q r):∃ r,(ah3 b xs ys).bind F=some r∧Q r:=by
 rw [Q7 h hb]; exact hf
theorem bO0 {F:Int × Int→Option β} (hp:OKp k p) (hk:k≤1000000000) (hn:n≤4611686018427387904) (hf:∀ v,OKp (k+1) (p+1)→0≤v→(1≤n→v<n)→∃ r,F (v,p+1)=some r∧Q r):∃ r,(A4 L p n).bind F=some r∧Q r:=by
 unfold OKp at *
 obtain ⟨v,h1,h2,h3⟩:=az0 L (n:=n) hp.1 (by omega) hn
 rw [h1]; exact hf v (by omega) h2 h3
theorem bO1 {F:Bool × Int→Option β} (hp:OKp k p) (hk:k≤1000000000) (hn:n≤4611686018427387904) (hf:∀ v,OKp (k+1) (p+1)→∃ r,F (v,p+1)=some r∧Q r):∃ r,(B7 L p n).bind F=some r∧Q r:=by
 unfold OKp at *
 obtain ⟨v,h1⟩:=aS5 L (n:=n) hp.1 (by omega) hn
 rw [h1]; exact hf v (by omega)
theorem bj1 {xs:List Int} {F:Int × Int→Option β} (hp:OKp k p) (hk:k≤1000000000) (hx:xs.length≠0) (hx':(xs.length:Int)≤4611686018427387904) (hf:∀ v,OKp (k+1) (p+1)→v∈xs→∃ r,F (v,p+1)=some r∧Q r):∃ r,(w5 L p xs).bind F=some r∧Q r:=by
 unfold OKp at *
 obtain ⟨v,h1,h2⟩:=aS3 L xs hp.1 (by omega) hx hx'
 rw [h1]; exact hf v (by omega) h2
theorem aW0 {xs:List ByteArray} {F:ByteArray × Int→Option β} (hp:OKp k p) (hk:k≤1000000000) (hx:xs.length≠0) (hx':(xs.length:Int)≤4611686018427387904) (hf:∀ v,OKp (k+1) (p+1)→v∈xs→∃ r,F (v,p+1)=some r∧Q r):∃ r,(n7 L p xs).bind F=some r∧Q r:=by
 unfold OKp at *
 obtain ⟨v,h1,h2⟩:=aI2 L xs hp.1 (by omega) hx hx'
 rw [h1]; exact hf v (by omega) h2
theorem bH3 {a b:Int} {F:Int × Int→Option β} (hp:OKp k p) (hk:k≤1000000000) (ha:-1000000000000≤a) (hab:a≤b) (hb:b≤1000000000000) (hf:∀ v,OKp (k+1) (p+1)→a≤v→v≤b→∃ r,F (v,p+1)=some r∧Q r):∃ r,(B2 L p a b).bind F=some r∧Q r:=by
 unfold OKp at *
 obtain ⟨v,h1,h2,h3⟩:=aB5 L hp.1 (by omega) ha hab hb
 rw [h1]; exact hf v (by omega) h2 h3
end
end Go.G

/- LDo: numbers drawn that are nearly always within a range. In plain Lean, no program in sight. -/
namespace Go.G
open Go Go.J
theorem bJ8 (L:List Int) {p a b:Int} (hp:0≤p) (hp':p≤999999998) (ha:-1000000000000≤a) (hab:a≤b) (hb:b≤1000000000000):∃ v q,C6 L p a b=some (v,q)∧q=p+2:=by
 unfold C6
 obtain ⟨c,h1⟩:=aS5 L (p:=p) (n:=12) hp (by omega) (by omega)
 rw [h1,Option.bind_some]
 cases c
 ·obtain ⟨v,h2,-,-⟩:=aB5 L (p:=p+1) (a:=a) (b:=b) (by omega) (by omega) ha hab hb
  simp only [j4]
  rw [h2]; exact ⟨v,_,rfl,by omega⟩
 ·obtain ⟨v,h2,-⟩:=aS3 L (p:=p+1) [w64 (a - 1),w64 (b+1),a,b,(-1099511627776),1099511627776] (by omega) (by omega) (by simp) (by simp)
  simp only [j9]
  rw [h2]; exact ⟨v,_,rfl,by omega⟩
theorem bV7 {β : Type} {Q : β → Prop} {L:List Int} {k p a b:Int} {F:Int × Int→Option β} (hp:OKp k p) (hk:k≤999999000) (ha:-1000000000000≤a) (hab:a≤b) (hb:b≤1000000000000) (hf:∀ v,OKp (k+2) (p+2)→∃ r,F (v,p+2)=some r∧Q r):∃ r,(C6 L p a b).bind F=some r∧Q r:=by
 unfold OKp at *
 obtain ⟨v,q,h1,rfl⟩:=bJ8 L hp.1 (by omega) ha hab hb
 rw [h1]; exact hf v (by omega)
end Go.G

