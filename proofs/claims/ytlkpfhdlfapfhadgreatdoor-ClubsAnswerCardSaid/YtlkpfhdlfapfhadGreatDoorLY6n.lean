/- LY6n: the books, asked with a name. In plain Lean, no program in sight. -/
import Derived.Test.YtlkpfhdlfapfhadGreatDoorLY6
namespace Go.G
open Go Go.J
set_option linter.unusedSimpArgs false
def aa7 (l:List TAct) (who:ByteArray) (at_:Int):Int:=bif aa2 l at_ != 0 then aa2 l at_ else bif T5 who then 0 else 5
theorem an5 (l:List TAct) (who:ByteArray) (at_:Int):ag8 l who at_=some (if aa7 l who at_=0 then (some (ba0 l at_),0) else (none,aa7 l who at_)):=by
 unfold ag8 aa7
 rw [ag3,Option.bind_some,aZ1]
 simp only [Option.bind_some]
 by_cases h:aa2 l at_=0
 ·simp only [if_pos h,K4,show (aa2 l at_ != 0)=false by simpa using h,cond_false]
  rw [show ((0:Int) != 0)=false from rfl,j4]
  cases T5 who <;> rfl
 ·simp only [if_neg h,ad4,show (aa2 l at_ != 0)=true by simpa using h,cond_true,j9]
theorem bt5 {l:List TAct} {who:ByteArray} {at_:Int} (h:aa7 l who at_=0):aa2 l at_=0∧T5 who=true:=by
 unfold aa7 at h
 by_cases h1:aa2 l at_=0
 ·rw [show (aa2 l at_ != 0)=false by simpa using h1,cond_false] at h
  cases h2:T5 who
  ·rw [h2] at h; cases h
  ·exact ⟨h1,rfl⟩
 ·rw [show (aa2 l at_ != 0)=true by simpa using h1,cond_true] at h
  exact (h1 h).elim
end Go.G
