/- LDr: drawing, step by step, with nothing but where the drawing stands. In plain Lean, no program in sight. -/
import Derived.Test.YtdmejijkjgdfaadGreatDoorLG1
import Derived.Test.YtdmejijkjgdfaadGreatDoorLG2
namespace Go.G
open Go Go.J
def OKp (k p : Int) : Prop := 0 ≤ p ∧ p ≤ k
section
variable {β : Type} {Q : β → Prop} {L : List Int} {k p n : Int}
theorem ex_if {b : Bool} {x y : Option β} (h1 : ∃ r, x = some r ∧ Q r) (h2 : ∃ r, y = some r ∧ Q r) : ∃ r, ifB b x y = some r ∧ Q r := by cases b <;> assumption
theorem ex_fin {α : Type} {e : Option (α ⊕ β)} {F : α → Option β} (h : ∃ r, e = some r ∧ ∃ s, r = .inl s ∧ ∃ r', F s = some r' ∧ Q r') : ∃ r', (e.bind fun k => Sum.fin k F) = some r' ∧ Q r' := by
  obtain ⟨r, rfl, s, rfl, r', h1, h2⟩ := h
  exact ⟨r', h1, h2⟩
theorem ex_app {α : Type} {b : Nat} {xs ys : List α} {F : List α → Option β} (h : (xs.length + ys.length) * b ≤ 140737488355328) (hb : 0 < b) (hf : ∃ r, F (xs ++ ys) = some r ∧ Q r) : ∃ r, (appM b xs ys).bind F = some r ∧ Q r := by
  rw [appM_of h hb]; exact hf
theorem dr_Next {F : Int × Int → Option β} (hp : OKp k p) (hk : k ≤ 1000000000) (hn : n ≤ 4611686018427387904) (hf : ∀ v, OKp (k + 1) (p + 1) → 0 ≤ v → (1 ≤ n → v < n) → ∃ r, F (v, p + 1) = some r ∧ Q r) : ∃ r, (m_gleemake_Stream_Next L p n).bind F = some r ∧ Q r := by
  unfold OKp at *
  obtain ⟨v, h1, h2, h3⟩ := Next_spec L (n := n) hp.1 (by omega) hn
  rw [h1]; exact hf v (by omega) h2 h3
theorem dr_Flip {F : Bool × Int → Option β} (hp : OKp k p) (hk : k ≤ 1000000000) (hn : n ≤ 4611686018427387904) (hf : ∀ v, OKp (k + 1) (p + 1) → ∃ r, F (v, p + 1) = some r ∧ Q r) : ∃ r, (m_gleemake_Stream_Flip L p n).bind F = some r ∧ Q r := by
  unfold OKp at *
  obtain ⟨v, h1⟩ := Flip_spec L (n := n) hp.1 (by omega) hn
  rw [h1]; exact hf v (by omega)
theorem dr_Pick {xs : List Int} {F : Int × Int → Option β} (hp : OKp k p) (hk : k ≤ 1000000000) (hx : xs.length ≠ 0) (hx' : (xs.length : Int) ≤ 4611686018427387904) (hf : ∀ v, OKp (k + 1) (p + 1) → v ∈ xs → ∃ r, F (v, p + 1) = some r ∧ Q r) : ∃ r, (m_gleemake_Stream_Pick L p xs).bind F = some r ∧ Q r := by
  unfold OKp at *
  obtain ⟨v, h1, h2⟩ := Pick_spec L xs hp.1 (by omega) hx hx'
  rw [h1]; exact hf v (by omega) h2
theorem dr_Some {xs : List ByteArray} {F : ByteArray × Int → Option β} (hp : OKp k p) (hk : k ≤ 1000000000) (hx : xs.length ≠ 0) (hx' : (xs.length : Int) ≤ 4611686018427387904) (hf : ∀ v, OKp (k + 1) (p + 1) → v ∈ xs → ∃ r, F (v, p + 1) = some r ∧ Q r) : ∃ r, (m_gleemake_Stream_Some L p xs).bind F = some r ∧ Q r := by
  unfold OKp at *
  obtain ⟨v, h1, h2⟩ := Some_spec L xs hp.1 (by omega) hx hx'
  rw [h1]; exact hf v (by omega) h2
theorem dr_Range {a b : Int} {F : Int × Int → Option β} (hp : OKp k p) (hk : k ≤ 1000000000) (ha : -1000000000000 ≤ a) (hab : a ≤ b) (hb : b ≤ 1000000000000) (hf : ∀ v, OKp (k + 1) (p + 1) → a ≤ v → v ≤ b → ∃ r, F (v, p + 1) = some r ∧ Q r) : ∃ r, (m_gleemake_Stream_Range L p a b).bind F = some r ∧ Q r := by
  unfold OKp at *
  obtain ⟨v, h1, h2, h3⟩ := Range_spec L hp.1 (by omega) ha hab hb
  rw [h1]; exact hf v (by omega) h2 h3
end
end Go.G
