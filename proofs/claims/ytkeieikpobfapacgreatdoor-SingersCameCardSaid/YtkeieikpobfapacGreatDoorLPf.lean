/- LPf: what is wrong with wishes, singers, who came, slots: both sides say the same. In plain Lean, no program in sight. -/
import Derived.Test.YtkeieikpobfapacGreatDoorLPe
import Derived.Test.YtkeieikpobfapacGreatDoorLCp
import Derived.Test.YtkeieikpobfapacGreatDoorLRs
import Derived.Test.YtkeieikpobfapacGreatDoorLRd
namespace Go.G
open Go Go.J
set_option linter.unusedSimpArgs false
set_option linter.unusedVariables false
def firstF {α : Type} (f : Nat → α → Int) : Nat → List α → Int
 | _, [] => 0
 | i, x :: t => bif f i x != 0 then f i x else firstF f (i + 1) t
theorem drop_cons {α : Type} {w t : List α} {x : α} {i : Nat} (hd : w.drop i = x :: t) : w[i]? = some x ∧ w.drop (i + 1) = t := by
 constructor
 ·have := congrArg (fun l => l[0]?) hd
  simpa using this
 ·have := congrArg List.tail hd
  simpa [List.tail_drop] using this
theorem first_zero {α : Type} (f : Nat → α → Int) (w : List α) : ∀ (t : List α) (i : Nat), w.drop i = t → firstF f i t = 0 → ∀ (j : Nat) x, i ≤ j → w[j]? = some x → f j x = 0 := by
 intro t
 induction t with
 | nil =>
  intro i hd _ j x hj hx
  have := (List.getElem?_eq_some_iff.1 hx).1
  have := List.drop_eq_nil_iff.1 hd
  omega
 | cons x t ih =>
  intro i hd h0 j y hj hy
  obtain ⟨hx, ht⟩ := drop_cons hd
  unfold firstF at h0
  cases hf : (f i x != 0) with
  | true => rw [hf] at h0; exact absurd h0 (bne_iff_ne.1 hf)
  | false =>
   rw [hf] at h0
   by_cases hji : j = i
   ·subst hji
    rw [hx] at hy; cases hy
    simpa using hf
   ·exact ih (i + 1) ht h0 j y (by omega) hy
theorem loop_first {α : Type} (step : Nat → α → Unit → Option (Flow Unit Int)) (f : Nat → α → Int) (w : List α) (h : ∀ (i : Nat) x, w[i]? = some x → step i x () = some (out1S (f i x))) :
  ∀ (t : List α) (i : Nat), w.drop i = t → ((rangeM step i t ()).bind fun f7 => Flow.fin f7 fun _ => some 0) = some (firstF f i t) := by
 intro t
 induction t with
 | nil => intro i _; rfl
 | cons x t ih =>
  intro i hd
  obtain ⟨hx, ht⟩ := drop_cons hd
  rw [rangeM_cons, h i x hx]
  unfold out1S
  rw [firstF]
  cases hf : (f i x != 0) with
  | true => rfl
  | false => rw [cond_false, cond_false, Option.bind_some, run_nxt]; exact ih (i + 1) ht
noncomputable def cmpSg (p x : TSings) : Int := bif Lib.compareBytes (bytesOf p.Singer) (bytesOf x.Singer) != 0 then Lib.compareBytes (bytesOf p.Singer) (bytesOf x.Singer) else Lib.compareBytes (bytesOf p.Piece) (bytesOf x.Piece)
noncomputable def siF (g : List TSings) (i : Nat) (x : TSings) : Int :=
 bif !(isKey x.Singer && isKey x.Piece && isKey x.Part) then 5 else if i = 0 then 0 else match g[i - 1]? with | some p => (bif cmpSg p x == 0 then 6 else bif decide (cmpSg p x > 0) then 7 else 0) | none => 0
def SiOK (g : List TSings) : Prop := ∀ (i : Nat) x, g[i]? = some x → siF g i x = 0
theorem came_spec (c : List TCame) (hl : c.length ≤ 1000) (hd : ∀ x ∈ c, DrC x) : ∃ e, m_rehearse_CheckCame c = some e ∧ m_gleeref2_CameFault c = some e ∧ (e = 0 → CmOK c) := by
 unfold m_rehearse_CheckCame m_gleeref2_CameFault
 rw [decide_eq_false (by omega), ifB_false, ifB_false]
 exact ⟨_, loop_first _ (cmF c) c (cm_prog c (by omega)) c 0 rfl, loop_first _ (cmF c) c (cm_ref c (by omega) hd) c 0 rfl, fun h0 => ⟨by omega, fun i x hx => first_zero (cmF c) c c 0 rfl h0 i x (Nat.zero_le _) hx⟩⟩
end Go.G
