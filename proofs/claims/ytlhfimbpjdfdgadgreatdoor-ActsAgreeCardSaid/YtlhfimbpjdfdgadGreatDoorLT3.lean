/- LT3: texts that are drawn and changed; numbers that are read in a row. In plain Lean, no program in sight. -/
import Derived.Test.YtlhfimbpjdfdgadGreatDoorLT2
namespace Go.G
open Go Go.J
set_option linter.unusedSimpArgs false
set_option linter.unusedVariables false
def allN : List ByteArray → Option (List Int)
 | [] => some []
 | x :: t => match numB x with
  | none => none
  | some n => (allN t).map (n :: ·)
theorem spl_size {c : UInt8} {s : BL} {x : BL} (h : x ∈ spl c s) : x.length ≤ s.length := by
 have key : ∀ (s : BL) (x : BL), x ∈ spl c s → x.length ≤ s.length := by
  intro s
  induction s with
  | nil => intro x hx; simp [spl] at hx; rw [hx]; simp
  | cons b t ih =>
   intro x hx
   unfold spl at hx
   split at hx
   ·rcases List.mem_cons.1 hx with hx | hx
    ·rw [hx]; simp
    ·have := ih x hx; simp only [List.length_cons]; omega
   ·split at hx
    ·simp at hx; rw [hx]; simp
    ·rename_i hd r hs
     rcases List.mem_cons.1 hx with hx | hx
     ·have := ih hd (by rw [hs]; exact List.mem_cons_self ..)
      rw [hx]; simp only [List.length_cons]; omega
     ·have := ih x (by rw [hs]; exact List.mem_cons_of_mem _ hx)
      simp only [List.length_cons]; omega
 exact key s x h
theorem lines_size {s x : BL} (h : x ∈ linesOf s) : x.length ≤ s.length := spl_size (List.dropLast_subset _ h)
theorem left_size (s : BL) : (leftOf s).length ≤ s.length := spl_size (List.getLast_mem _)
theorem lines_len (s : BL) : (linesOf s).length ≤ s.length := by
 unfold linesOf
 rw [List.length_dropLast]
 have := spl_len 10 s
 omega
end Go.G
