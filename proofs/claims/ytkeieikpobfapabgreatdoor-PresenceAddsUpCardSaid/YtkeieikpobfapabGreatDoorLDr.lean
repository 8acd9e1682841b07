/- LDr: drawing, step by step, with nothing but where the drawing stands. In plain Lean, no program in sight. -/
import Derived.Test.YtkeieikpobfapabGreatDoorLG1
import Derived.Test.YtkeieikpobfapabGreatDoorLG2
namespace Go.G
open Go Go.J
def OKp (k p : Int) : Prop := 0 ≤ p ∧ p ≤ k
section
variable {β : Type} {Q : β → Prop} {L : List Int} {k p n : Int}
theorem ex_fin {α : Type} {e : Option (α ⊕ β)} {F : α → Option β} (h : ∃ r, e = some r ∧ ∃ s, r = .inl s ∧ ∃ r', F s = some r' ∧ Q r') : ∃ r', (e.bind fun k => Sum.fin k F) = some r' ∧ Q r' := by
 obtain ⟨r, rfl, s, rfl, r', h1, h2⟩ := h
 exact ⟨r', h1, h2⟩
theorem ex_app {α : Type} {b : Nat} {xs ys : List α} {F : List α → Option β} (h : (xs.length + ys.length) * b ≤ 140737488355328) (hb : 0 < b) (hf : ∃ r, F (xs ++ ys) = some r ∧ Q r) : ∃ r, (appM b xs ys).bind F = some r ∧ Q r := by
 rw [appM_of h hb]; exact hf
theorem dr_Flip {F : Bool × Int → Option β} (hp : OKp k p) (hk : k ≤ 1000000000) (hn : n ≤ 4611686018427387904) (hf : ∀ v, OKp (k + 1) (p + 1) → ∃ r, F (v, p + 1) = some r ∧ Q r) : ∃ r, (m_gleemake_Stream_Flip L p n).bind F = some r ∧ Q r := by
 unfold OKp at *
 obtain ⟨v, h1⟩ := Flip_spec L (n := n) hp.1 (by omega) hn
 rw [h1]; exact hf v (by omega)
theorem dr_Pick {xs : List Int} {F : Int × Int → Option β} (hp : OKp k p) (hk : k ≤ 1000000000) (hx : xs.length ≠ 0) (hx' : (xs.length : Int) ≤ 4611686018427387904) (hf : ∀ v, OKp (k + 1) (p + 1) → v ∈ xs → ∃ r, F (v, p + 1) = some r ∧ Q r) : ∃ r, (m_gleemake_Stream_Pick L p xs).bind F = some r ∧ Q r := by
 unfold OKp at *
 obtain ⟨v, h1, h2⟩ := Pick_spec L xs hp.1 (by omega) hx hx'
 rw [h1]; exact hf v (by omega) h2
theorem dr_Some {xs : List ByteArray} {F : ByteArray × Int → Option β} (hp : OKp k p) (hk : k ≤ 1000000000) (hx : xs.length ≠ 0) (hx' : (xs.length : Int) ≤ 4611686018427387904) (hf : ∀ v, OKp (k + 1) (p + 1) → v ∈ xs → ∃ r, F (v, p + 1) = some r ∧ Q r) : ∃ r, (m_gleemake_Stream_Some L p xs).bind F = some r ∧ Q r := by
 unfold OKp at *
 obtain ⟨v, h1, h2⟩ := Some_spec L xs hp.1 (by omega) hx hx'
 rw [h1]; exact hf v (by omega) h2
end
end Go.G
