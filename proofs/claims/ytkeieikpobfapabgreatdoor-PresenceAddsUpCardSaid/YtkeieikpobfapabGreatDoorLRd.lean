/- LRd: who sings, who is away, wishes and free windows as they are drawn. In plain Lean, no program in sight. -/
import Derived.Test.YtkeieikpobfapabGreatDoorLRb
import Derived.Test.YtkeieikpobfapabGreatDoorLDo
namespace Go.G
open Go Go.J
set_option linter.unusedSimpArgs false
set_option linter.unusedVariables false
theorem OKp.up {k k' p : Int} (h : OKp k p) (hk : k ≤ k') : OKp k' p := by unfold OKp at *; omega
theorem Odd_val (L : List Int) {p a b : Int} (hp : 0 ≤ p) (hp' : p ≤ 999999998) (ha : -1000000000000 ≤ a) (hab : a ≤ b) (hb : b ≤ 1000000000000) : ∃ v, m_gleemake_Stream_Odd L p a b = some (v, p + 2) ∧ (a - 1 ≤ v ∧ v ≤ b + 1 ∨ v = -1099511627776 ∨ v = 1099511627776) := by
 unfold m_gleemake_Stream_Odd
 obtain ⟨c, h1⟩ := Flip_spec L (p := p) (n := 12) hp (by omega) (by omega)
 rw [h1, Option.bind_some]
 cases c
 ·obtain ⟨v, h2, h3, h4⟩ := Range_spec L (p := p + 1) (a := a) (b := b) (by omega) (by omega) ha hab hb
  simp only [ifB_false]
  rw [h2]; exact ⟨v, by simp; omega, by omega⟩
 ·obtain ⟨v, h2, h3⟩ := Pick_spec L (p := p + 1) [w64 (a - 1), w64 (b + 1), a, b, (-1099511627776), 1099511627776] (by omega) (by omega) (by simp) (by simp)
  simp only [ifB_true]
  rw [h2]
  refine ⟨v, by simp; omega, ?_⟩
  simp only [List.mem_cons, List.not_mem_nil, or_false] at h3
  rw [w64_id (by omega), w64_id (by omega)] at h3
  omega
theorem dr_OddV {β : Type} {Q : β → Prop} {L : List Int} {k p a b : Int} {F : Int × Int → Option β} (hp : OKp k p) (hk : k ≤ 999999000) (ha : -1000000000000 ≤ a) (hab : a ≤ b) (hb : b ≤ 1000000000000) (hf : ∀ v, OKp (k + 2) (p + 2) → (a - 1 ≤ v ∧ v ≤ b + 1 ∨ v = -1099511627776 ∨ v = 1099511627776) → ∃ r, F (v, p + 2) = some r ∧ Q r) : ∃ r, (m_gleemake_Stream_Odd L p a b).bind F = some r ∧ Q r := by
 unfold OKp at *
 obtain ⟨v, h1, h2⟩ := Odd_val L hp.1 (by omega) ha hab hb
 rw [h1]; exact hf v (by omega) h2
def ltS (x y : TSings) : Prop := bytesOf x.Singer < bytesOf y.Singer ∨ (x.Singer = y.Singer ∧ bytesOf x.Piece < bytesOf y.Piece)
def gloB : ByteArray := ByteArray.mk [103, 108, 111, 114, 105, 97].toArray
def kyrB : ByteArray := ByteArray.mk [107, 121, 114, 105, 101].toArray
def sncB : ByteArray := ByteArray.mk [115, 97, 110, 99, 116, 117, 115].toArray
def sgr4 : List ByteArray := [(ByteArray.mk [97, 110, 110].toArray), (ByteArray.mk [98, 111, 98].toArray), (ByteArray.mk [99, 105, 100].toArray), (ByteArray.mk [100, 97, 110].toArray)]
structure SgOK (l : List TSings) : Prop where
 pw : l.Pairwise ltS
 ok : ∀ x ∈ l, x.Singer ∈ sgr4 ∧ (x.Piece = gloB ∨ x.Piece = kyrB) ∧ isKey x.Part = true
def DrW (w : TWindow) : Prop := w.To ≤ 1000 ∨ EndI < w.To
end Go.G
