/- Plain laws of the models; no condition beyond what each theorem says. -/
import Derived.Test.YtlhfimbpjdfdgadGreatDoorL0
import Derived.Test.YtlhfimbpjdfdgadGreatDoorLSh
namespace Go.G
open Go Go.J
theorem Below_spec (a : Int) {n : Int} (hn : n ≤ 4611686018427387904) : ∃ r, m_gleemake_Below a n = some r ∧ 0 ≤ r ∧ (1 ≤ n → r < n) ∧ r ≤ 4611686018427387904 := by
 unfold m_gleemake_Below
 by_cases h : n < 1
 ·exact ⟨0, by simp [h], by omega, by omega, by omega⟩
 ·have hn0 : n ≠ 0 := by omega
  have h1 : a.tmod n < n := Int.tmod_lt_of_pos a (by omega)
  have h2 : -n < a.tmod n := Int.lt_tmod_of_pos a (by omega)
  by_cases hz : a.tmod n < 0
  ·refine ⟨a.tmod n + n, ?_, by omega, by omega, by omega⟩
   rw [decide_eq_false h, ifB_false, remM_of hn0]
   show ifB (decide (a.tmod n < 0)) _ _ = _
   rw [decide_eq_true hz, ifB_true, w64_id (by omega)]
  ·refine ⟨a.tmod n, ?_, by omega, by omega, by omega⟩
   rw [decide_eq_false h, ifB_false, remM_of hn0]
   show ifB (decide (a.tmod n < 0)) _ _ = _
   rw [decide_eq_false hz, ifB_false]
theorem Next_spec (L : List Int) {p n : Int} (hp : 0 ≤ p) (hp' : p ≤ 1000000000) (hn : n ≤ 4611686018427387904) :
  ∃ r, m_gleemake_Stream_Next L p n = some (r, p + 1) ∧ 0 ≤ r ∧ (1 ≤ n → r < n) := by
 unfold m_gleemake_Stream_Next
 rw [w64_id (n := p + 1) (by omega)]
 by_cases hL : (L.length : Int) = 0
 ·obtain ⟨r, h1, h2, h3, -⟩ := Below_spec (w64 ((p + 1) * 7919)) hn
  exact ⟨r, by rw [hL]; simp [h1], h2, h3⟩
 ·have hb : ((L.length : Int) == 0) = false := by simpa using hL
  rw [hb, ifB_false, w64_id (n := p + 1 - 1) (by omega), remM_of hL, quoM_of hL]
  have hpp : p + 1 - 1 = p := by omega
  rw [hpp]
  have hpos : (0 : Int) < L.length := by omega
  have h1 : p.tmod L.length < L.length := Int.tmod_lt_of_pos p hpos
  have h2 : 0 ≤ p.tmod L.length := Int.tmod_nonneg _ hp
  obtain ⟨x, hx⟩ : ∃ x, getI L (p.tmod L.length) = some x := by
   have h3 : (p.tmod L.length).toNat < L.length := by omega
   exact ⟨L[(p.tmod L.length).toNat], getI_of (n := (p.tmod L.length).toNat) (by omega) (List.getElem?_eq_getElem h3)⟩
  obtain ⟨y, hy, -⟩ := Below_spec x (n := 1073741824) (by omega)
  obtain ⟨r, h1, h2, h3, -⟩ := Below_spec (w64 (y + w64 (w64 (p.tdiv L.length) * w64 (7919 + p.tmod L.length)))) hn
  refine ⟨r, ?_, h2, h3⟩
  show (getI L (p.tmod L.length)).bind _ = _
  rw [hx]
  show (m_gleemake_Below x 1073741824).bind _ = _
  rw [hy]
  show (m_gleemake_Below _ n).bind _ = _
  rw [h1]; rfl
theorem Flip_spec (L : List Int) {p n : Int} (hp : 0 ≤ p) (hp' : p ≤ 1000000000) (hn : n ≤ 4611686018427387904) :
  ∃ b, m_gleemake_Stream_Flip L p n = some (b, p + 1) := by
 obtain ⟨r, h, -⟩ := Next_spec L hp hp' hn
 exact ⟨_, by unfold m_gleemake_Stream_Flip; rw [h]; rfl⟩
theorem Pick_spec (L : List Int) {p : Int} (xs : List Int) (hp : 0 ≤ p) (hp' : p ≤ 1000000000) (hx : xs.length ≠ 0) (hx' : (xs.length : Int) ≤ 4611686018427387904) :
  ∃ v, m_gleemake_Stream_Pick L p xs = some (v, p + 1) ∧ v ∈ xs := by
 obtain ⟨r, h, h2, h3⟩ := Next_spec L (n := xs.length) hp hp' hx'
 have h3 := h3 (by omega)
 have h4 : r.toNat < xs.length := by omega
 refine ⟨xs[r.toNat], ?_, List.getElem_mem h4⟩
 unfold m_gleemake_Stream_Pick
 rw [h]
 show (getI xs r).bind _ = _
 rw [getI_of (n := r.toNat) (by omega) (List.getElem?_eq_getElem h4)]; rfl
end Go.G
namespace Go.G
open Go Go.J
theorem Range_spec (L : List Int) {p a b : Int} (hp : 0 ≤ p) (hp' : p ≤ 1000000000) (ha : -1000000000000 ≤ a) (hab : a ≤ b) (hb : b ≤ 1000000000000) :
  ∃ v, m_gleemake_Stream_Range L p a b = some (v, p + 1) ∧ a ≤ v ∧ v ≤ b := by
 obtain ⟨r, h, h2, h3⟩ := Next_spec L (n := b - a + 1) hp hp' (by omega)
 have h3 := h3 (by omega)
 refine ⟨a + r, ?_, by omega, by omega⟩
 unfold m_gleemake_Stream_Range
 rw [decide_eq_false (by omega), ifB_false, w64_id (n := b - a) (by omega), w64_id (n := b - a + 1) (by omega), h]
 show some (w64 (a + r), p + 1) = _
 rw [w64_id (by omega)]
end Go.G
namespace Go.G
open Go Go.J
theorem Some_spec (L : List Int) {p : Int} (xs : List ByteArray) (hp : 0 ≤ p) (hp' : p ≤ 1000000000) (hx : xs.length ≠ 0) (hx' : (xs.length : Int) ≤ 4611686018427387904) :
  ∃ v, m_gleemake_Stream_Some L p xs = some (v, p + 1) ∧ v ∈ xs := by
 obtain ⟨r, h, h2, h3⟩ := Next_spec L (n := xs.length) hp hp' hx'
 have h3 := h3 (by omega)
 have h4 : r.toNat < xs.length := by omega
 refine ⟨xs[r.toNat], ?_, List.getElem_mem h4⟩
 unfold m_gleemake_Stream_Some
 rw [h]
 show (getI xs r).bind _ = _
 rw [getI_of (n := r.toNat) (by omega) (List.getElem?_eq_getElem h4)]; rfl
end Go.G
