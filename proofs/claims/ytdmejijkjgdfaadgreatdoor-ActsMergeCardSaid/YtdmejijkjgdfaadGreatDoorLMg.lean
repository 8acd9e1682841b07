/- LMg: the order of acts. In plain Lean, no program in sight. -/
import Derived.Test.YtdmejijkjgdfaadGreatDoorLY2
import Derived.Test.YtdmejijkjgdfaadGreatDoorLS2
namespace Go.G
open Go Go.J
set_option linter.unusedSimpArgs false
set_option linter.unusedVariables false
def RA (a b : TAct) : Prop := a.At < b.At ∨ (a.At = b.At ∧ (bytesOf a.Site < bytesOf b.Site ∨ (a.Site = b.Site ∧ a.No < b.No)))
theorem cmpA_lt (a b : TAct) : cmpA a b < 0 ↔ RA a b := by
  unfold cmpA RA
  by_cases h1 : a.At = b.At
  · rw [cI_zero.2 h1, show ((0 : Int) != 0) = false from rfl, cond_false]
    have e1 : ¬ a.At < b.At := by omega
    by_cases h2 : a.Site = b.Site
    · rw [cmpS_zero.2 h2, show ((0 : Int) != 0) = false from rfl, cond_false, cI_neg]
      constructor
      · exact fun h => .inr ⟨h1, .inr ⟨h2, h⟩⟩
      · rintro (h | ⟨-, h | ⟨-, h⟩⟩)
        · exact (e1 h).elim
        · rw [h2] at h; exact (bs_irr _ h).elim
        · exact h
    · have hne : cmpS a.Site b.Site ≠ 0 := fun e => h2 (cmpS_zero.1 e)
      rw [show (cmpS a.Site b.Site != 0) = true from bne_iff_ne.2 hne, cond_true]
      unfold cmpS
      rcases cb_spec (bytesOf a.Site) (bytesOf b.Site) with ⟨g1, g2⟩ | ⟨g1, g2⟩ | ⟨g1, g2⟩
      · rw [g1]
        exact ⟨fun _ => .inr ⟨h1, .inl g2⟩, fun _ => by decide⟩
      · exact (h2 (bytes_inj' g2)).elim
      · rw [g1]
        constructor
        · intro h; exact absurd h (by decide)
        · rintro (h | ⟨-, h | ⟨h, -⟩⟩)
          · exact (e1 h).elim
          · exact (bs_asym h g2).elim
          · exact (h2 h).elim
  · have hne : cI a.At b.At ≠ 0 := fun e => h1 (cI_zero.1 e)
    rw [show (cI a.At b.At != 0) = true from bne_iff_ne.2 hne, cond_true, cI_neg]
    exact ⟨fun h => .inl h, fun h => h.resolve_right fun g => h1 g.1⟩
theorem RA_trans (a b c : TAct) (h1 : RA a b) (h2 : RA b c) : RA a c := by
  unfold RA at *
  rcases h1 with h1 | ⟨h1, g1⟩
  · rcases h2 with h2 | ⟨h2, -⟩
    · exact .inl (by omega)
    · exact .inl (by omega)
  · rcases h2 with h2 | ⟨h2, g2⟩
    · exact .inl (by omega)
    · refine .inr ⟨by omega, ?_⟩
      rcases g1 with g1 | ⟨g1, k1⟩
      · rcases g2 with g2 | ⟨g2, -⟩
        · exact .inl (bs_trans g1 g2)
        · exact .inl (g2 ▸ g1)
      · rcases g2 with g2 | ⟨g2, k2⟩
        · exact .inl (g1 ▸ g2)
        · exact .inr ⟨g1.trans g2, by omega⟩
theorem RA_irr (a : TAct) : ¬ RA a a := by
  unfold RA
  rintro (h | ⟨-, h | ⟨-, h⟩⟩)
  · omega
  · exact bs_irr _ h
  · omega
theorem RA_tri (a b : TAct) (h : own a ≠ own b) : RA a b ∨ RA b a := by
  unfold RA
  by_cases h1 : a.At = b.At
  · rcases bs_tri (bytesOf a.Site) (bytesOf b.Site) with g | g | g
    · exact .inl (.inr ⟨h1, .inl g⟩)
    · have e := bytes_inj' g
      have hn : a.No ≠ b.No := fun e2 => h (by unfold own; rw [e, e2])
      rcases Int.lt_or_gt_of_ne hn with q | q
      · exact .inl (.inr ⟨h1, .inr ⟨e, q⟩⟩)
      · exact .inr (.inr ⟨h1.symm, .inr ⟨e.symm, q⟩⟩)
    · exact .inr (.inr ⟨h1.symm, .inl g⟩)
  · rcases Int.lt_or_gt_of_ne h1 with q | q
    · exact .inl (.inl q)
    · exact .inr (.inl q)
def ltA (a b : TAct) : Bool := decide (cmpA a b < 0)
end Go.G
