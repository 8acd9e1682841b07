/- LDr: drawing, step by step, with nothing but where the drawing stands. In plain Lean, no program in sight. -/
import Derived.Test.YtlhfimbpjdfdgaaGreatDoorLG1
import Derived.Test.YtlhfimbpjdfdgaaGreatDoorLG2
namespace Go.G
open Go Go.J
def OKp (k p : Int) : Prop := 0 ≤ p ∧ p ≤ k
section
variable {β : Type} {Q : β → Prop} {L : List Int} {k p n : Int}
theorem ex_if {b : Bool} {x y : Option β} (h1 : ∃ r, x = some r ∧ Q r) (h2 : ∃ r, y = some r ∧ Q r) : ∃ r, ifB b x y = some r ∧ Q r := by cases b <;> assumption
theorem dr_Next {F : Int × Int → Option β} (hp : OKp k p) (hk : k ≤ 1000000000) (hn : n ≤ 4611686018427387904) (hf : ∀ v, OKp (k + 1) (p + 1) → 0 ≤ v → (1 ≤ n → v < n) → ∃ r, F (v, p + 1) = some r ∧ Q r) : ∃ r, (m_gleemake_Stream_Next L p n).bind F = some r ∧ Q r := by
  unfold OKp at *
  obtain ⟨v, h1, h2, h3⟩ := Next_spec L (n := n) hp.1 (by omega) hn
  rw [h1]; exact hf v (by omega) h2 h3
theorem dr_Flip {F : Bool × Int → Option β} (hp : OKp k p) (hk : k ≤ 1000000000) (hn : n ≤ 4611686018427387904) (hf : ∀ v, OKp (k + 1) (p + 1) → ∃ r, F (v, p + 1) = some r ∧ Q r) : ∃ r, (m_gleemake_Stream_Flip L p n).bind F = some r ∧ Q r := by
  unfold OKp at *
  obtain ⟨v, h1⟩ := Flip_spec L (n := n) hp.1 (by omega) hn
  rw [h1]; exact hf v (by omega)
theorem dr_Pick {xs : List Int} {F : Int × Int → Option β} (hp : OKp k p) (hk : k ≤ 1000000000) (hx : xs.length ≠ 0) (hx' : (xs.length : Int) ≤ 4611686018427387904) (hf : ∀ v, OKp (k + 1) (p + 1) → v ∈ xs → ∃ r, F (v, p + 1) = some r ∧ Q r) : ∃ r, (m_gleemake_Stream_Pick L p xs).bind F = some r ∧ Q r := by
  unfold OKp at *
  obtain ⟨v, h1, h2⟩ := Pick_spec L xs hp.1 (by omega) hx hx'
  rw [h1]; exact hf v (by omega) h2
theorem dr_Some {xs : List ByteArray} {F : ByteArray × Int → Option β} (hp : OKp k p) (hk : k ≤ 1000000000) (hx : xs.length ≠ 0) (hx' : (xs.length : Int) ≤ 4611686018427387904) (hf : ∀ v, OKp (k + 1) (p + 1) → v ∈ xs → ∃ r, F (v, p + 1) = some r ∧ Q r) : ∃ r, (m_gleemake_Stream_Some L p xs).bind F = some r ∧ Q r := by
  unfold OKp at *
  obtain ⟨v, h1, h2⟩ := Some_spec L xs hp.1 (by omega) hx hx'
  rw [h1]; exact hf v (by omega) h2
end
end Go.G
