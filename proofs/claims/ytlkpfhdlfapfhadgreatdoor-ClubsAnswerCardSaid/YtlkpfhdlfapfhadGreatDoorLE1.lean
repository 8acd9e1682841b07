/- LE1: first errors, equal lists. In plain Lean, no program in sight. -/
import Derived.Test.YtlkpfhdlfapfhadGreatDoorLS1
import Derived.Test.YtlkpfhdlfapfhadGreatDoorM
namespace Go.G
open Go Go.J
theorem bz2 (b:Bool) (n:Int):aj0 b n=some (bif b then n else 0):=by cases b <;> rfl
def bb7:List Int→Int
 | []=>0
 | k::t=>if k=0 then bb7 t else k
theorem bB6:∀ (t:List Int) (i:Nat),∃ f,l8 ac5 i t ()=some f∧(Flow.fin f fun _=>some (0:Int))=some (bb7 t):=by
 intro t
 induction t with
 | nil=>intro i; exact ⟨_,rfl,rfl⟩
 | cons k t ih =>
  intro i
  rw [o5]
  unfold bb7
  by_cases h:k=0
  ·subst h
   rw [if_pos rfl]
   exact ih (i+1)
  ·rw [if_neg h]
   have:ac5 i k ()=some (.ret k):=by
    unfold ac5
    rw [show (k != 0)=true by simpa using h]; rfl
   rw [this]
   exact ⟨_,rfl,rfl⟩
theorem be3 (t:List Int):U3 t=some (bb7 t):=by
 obtain ⟨f,h1,h2⟩:=bB6 t 0
 unfold U3
 rw [h1]; exact h2
theorem bq8 (a b:List ByteArray):x6 a b=some (decide (a=b)):=by
 unfold x6
 by_cases hl:a.length=b.length
 ·have h0:((a.length:Int) != (b.length:Int))=false:=by simp [hl]
  rw [h0,j4]
  obtain ⟨f,h1,h2⟩:=aT0 (O5 b) a (fun i _=>∀ j,j<i→a[j]? = b[j]?)
   (fun f=>(Flow.fin f fun _=>some true)=some (decide (a=b))) (by
   intro i x s hx hI
   have hi:=(List.getElem?_eq_some_iff.1 hx).1
   have hb:b[i]? = some b[i]:=List.getElem?_eq_getElem (by omega)
   unfold O5
   rw [Y6 rfl hb,Option.bind_some]
   by_cases he:x=b[i]
   ·have:(x.toList==b[i].toList)=true:=by rw [he]; simp
    rw [this]
    refine ⟨_,rfl,fun s' _ j hj=>?_,fun _ e=>(by cases e),fun _ e=>(by cases e)⟩
    rcases Nat.lt_succ_iff_lt_or_eq.1 hj with h | rfl
    ·exact hI j h
    ·rw [hx,hb,he]
   ·have:(x.toList==b[i].toList)=false:=by
     rw [beq_eq_false_iff_ne]
     exact fun h=>he (ad5.1 h)
    rw [this]
    refine ⟨_,rfl,fun s' e=>(by cases e),fun _ e=>(by cases e),fun v e=>?_⟩
    cases e
    have:a≠b:=fun h=>he (by
     subst h
     rw [List.getElem?_eq_getElem hi] at hx
     exact (Option.some.inj hx).symm)
    rw [decide_eq_false this]; rfl) (fun s hI=>by
   have:a=b:=List.ext_getElem? fun j=>by
    by_cases hj:j<a.length
    ·exact hI j hj
    ·rw [List.getElem?_eq_none (by omega),List.getElem?_eq_none (by omega)]
   rw [decide_eq_true this]; rfl) () (fun j hj=>by omega)
  rw [h1]; exact h2
 ·have h0:((a.length:Int) != (b.length:Int))=true:=by simp; omega
  rw [h0,j9,decide_eq_false (fun h=>hl (congrArg List.length h))]
theorem aU1 (a:List ByteArray):x6 a a=some true:=by rw [bq8]; simp
end Go.G
