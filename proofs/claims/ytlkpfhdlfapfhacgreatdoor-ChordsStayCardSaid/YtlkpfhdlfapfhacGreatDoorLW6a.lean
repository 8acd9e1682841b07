/- LW6a: May, Broken and Way of whatever arguments. In plain Lean, no program in sight. -/
import Derived.Test.YtlkpfhdlfapfhacGreatDoorLW5
import Derived.Test.YtlkpfhdlfapfhacGreatDoorLH5
namespace Go.G
open Go Go.J
set_option linter.unusedSimpArgs false
set_option linter.unusedVariables false
theorem ne0W {k:Int} (h:¬ k=0):(k != 0)=true:=by simpa using h
theorem ChordsFault_len {l:List TChord} {n:Int} (h:m_gleeref2_ChordsFault l n=some 0):(l.length:Int)≤n:=by
 refine Int.not_lt.1 fun hlt=>?_
 unfold m_gleeref2_ChordsFault at h
 rw [decide_eq_true (show (l.length:Int)>n from hlt),ifB_true] at h
 cases h
section
variable {f:List TFollow} {a b:TChord} {r:List TChord} {e0 ea eb er:Int}
theorem Way_all (h0:m_chord_CheckFollows f=some e0) (hc:m_chord_checkAll [a,b]=some (if ea=0 then eb else ea)) :
  ∃ ms,((if e0=0 then (if ea=0 then eb else ea) else e0)=0→StepsW f (plainC b) ms) ∧
   m_chord_Way f a b=some (if (if e0=0 then (if ea=0 then eb else ea) else e0)=0 then (wayR f ms a).1 else [],if (if e0=0 then (if ea=0 then eb else ea) else e0)=0 then (wayR f ms a).2 else false,if e0=0 then (if ea=0 then eb else ea) else e0):=by
 generalize (if ea=0 then eb else ea)=e1 at hc
 by_cases h:e0=0
 ·subst h
  rw [if_pos rfl]
  by_cases h1:e1=0
  ·subst h1
   obtain ⟨ms,h2,h3⟩:=Way_exact f h0 a b hc
   exact ⟨ms,fun _=>h2,by rw [h3,if_pos rfl,if_pos rfl]⟩
  ·refine ⟨[],fun h=>absurd h h1,?_⟩
   unfold m_chord_Way
   rw [h0,Option.bind_some,show ((0:Int) != 0)=false from rfl,ifB_false,hc,Option.bind_some,ne0W h1,ifB_true,if_neg h1,if_neg h1]
 ·refine ⟨[],fun h'=>absurd (by rw [if_neg h] at h'; exact h') h,?_⟩
  unfold m_chord_Way
  rw [h0,Option.bind_some,ne0W h,ifB_true,if_neg h,if_neg h,if_neg h]
end
end Go.G
