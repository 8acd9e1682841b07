/- LCh2: drawn chords, their faults, shifts, tones laid upward. In plain Lean, no program in sight. -/
import Derived.Test.YtdeoejkgmeemaahGreatDoorLCh1
namespace Go.G
open Go Go.J
theorem Odd_spec (L : List Int) {p a b : Int} (hp : 0 ≤ p) (hp' : p ≤ 100000000) (ha : -1000000000000 ≤ a) (hab : a ≤ b) (hb : b ≤ 1000000000000) :
    ∃ v p', m_gleemake_Stream_Odd L p a b = some (v, p') ∧ p ≤ p' ∧ p' ≤ p + 2 := by
  unfold m_gleemake_Stream_Odd
  obtain ⟨f, hf⟩ := Flip_spec L (n := 12) hp (by omega) (by omega)
  rw [hf]
  show ∃ v p', ifB f _ _ = _ ∧ _
  cases f with
  | true =>
    obtain ⟨v, hv, -⟩ := Pick_spec L (p := p + 1) [w64 (a - 1), w64 (b + 1), a, b, (-1099511627776), 1099511627776] (by omega) (by omega) (by simp) (by simp)
    exact ⟨v, p + 1 + 1, by rw [ifB_true, hv]; rfl, by omega, by omega⟩
  | false =>
    obtain ⟨v, hv, -⟩ := Range_spec L (p := p + 1) (a := a) (b := b) (by omega) (by omega) ha hab hb
    exact ⟨v, p + 1 + 1, by rw [ifB_false]; show (m_gleemake_Stream_Range L (p + 1) a b).bind _ = _; rw [hv]; rfl, by omega, by omega⟩
theorem AChord_some (L : List Int) : ∃ c q, m_gleemake_Stream_AChord L 0 = some (c, q) ∧ 0 ≤ q ∧ q ≤ 100 := by
  unfold m_gleemake_Stream_AChord
  obtain ⟨f, hf⟩ := Flip_spec L (p := 0) (n := 40) (by omega) (by omega) (by omega)
  rw [hf, Option.bind_some]
  simp only
  cases f with
  | true =>
    obtain ⟨a, p1, e1, a1, a2⟩ := Odd_spec L (p := 0 + 1) (a := 0) (b := 11) (by omega) (by omega) (by omega) (by omega) (by omega)
    obtain ⟨b, p2, e2, b1, b2⟩ := Odd_spec L (p := p1) (a := 1) (b := 7) (by omega) (by omega) (by omega) (by omega) (by omega)
    obtain ⟨d, p3, e3, d1, d2⟩ := Odd_spec L (p := p2) (a := 0) (b := 3) (by omega) (by omega) (by omega) (by omega) (by omega)
    rw [ifB_true, e1, Option.bind_some]
    simp only
    rw [e2, Option.bind_some]
    simp only
    rw [e3, Option.bind_some]
    exact ⟨_, _, rfl, by omega, by omega⟩
  | false =>
    obtain ⟨a, e1, a1, a2⟩ := Range_spec L (p := 0 + 1) (a := 0) (b := 11) (by omega) (by omega) (by omega) (by omega) (by omega)
    obtain ⟨b, e2, b1, b2⟩ := Range_spec L (p := 0 + 1 + 1) (a := 1) (b := 7) (by omega) (by omega) (by omega) (by omega) (by omega)
    obtain ⟨d, e3, d1⟩ := Pick_spec L (p := 0 + 1 + 1 + 1) [0, 0, 0, 1, 2] (by omega) (by omega) (by simp) (by simp)
    rw [ifB_false, e1, Option.bind_some]
    simp only
    rw [e2, Option.bind_some]
    simp only
    rw [e3, Option.bind_some]
    exact ⟨_, _, rfl, by omega, by omega⟩
theorem in_spec (a b c : Int) : m_gleeref2_in a b c = some (decide (b ≤ a ∧ a ≤ c)) := by
  unfold m_gleeref2_in
  by_cases h : b ≤ a
  · rw [decide_eq_true h, ifB_true]
    congr 1
    rw [decide_eq_decide]; exact ⟨fun h2 => ⟨h, h2⟩, fun h2 => h2.2⟩
  · rw [decide_eq_false h, ifB_false, decide_eq_false (fun h2 => h h2.1)]
/-- both say the same of a chord; without a fault it is a right one -/
theorem fault_eq (c : TChord) : ∃ k, m_chord_CheckChord c = some k ∧ m_gleeref2_ChordFault c = some k ∧ (k = 0 → ChOK c) := by
  unfold m_chord_CheckChord m_gleeref2_ChordFault m_chord_isKind
  rw [Outside_spec, in_spec, Option.bind_some, Option.bind_some]
  by_cases h1 : 0 ≤ c.Root ∧ c.Root ≤ 11
  · rw [decide_eq_true h1, Bool.not_true, ifB_false, ifB_false, Outside_spec, in_spec]
    simp only [Option.bind_some]
    by_cases h2 : 1 ≤ c.Kind ∧ c.Kind ≤ 7
    · rw [decide_eq_true h2, Bool.not_true, Bool.not_false, Bool.not_true, ifB_false, ifB_false]
      have hk : c.Kind = 1 ∨ c.Kind = 2 ∨ c.Kind = 3 ∨ c.Kind = 4 ∨ c.Kind = 5 ∨ c.Kind = 6 ∨ c.Kind = 7 := by omega
      have key : ∀ (l l' : List Int) (n : Int), m_chord_above c.Kind = some l → m_gleeref2_kindTones c.Kind = some l' → w64 ((l.length : Int) - 1) = n → w64 ((l'.length : Int) - 1) = n → n + 1 = manyT c.Kind →
          ∃ k, ((m_chord_above c.Kind).bind fun y4 => (m_kit_Outside c.Turn 0 (w64 ((y4.length : Int) - 1))).bind fun y6 => ifB y6 (some (1 : Int)) (some 0)) = some k ∧
            ((m_gleeref2_kindTones c.Kind).bind fun y4 => (m_gleeref2_in c.Turn 0 (w64 ((y4.length : Int) - 1))).bind fun y6 => ifB (!y6) (some (1 : Int)) (some 0)) = some k ∧ (k = 0 → ChOK c) := by
        intro l l' n e1 e2 e3 e4 e5
        rw [e1, e2, Option.bind_some, Option.bind_some, e3, e4, Outside_spec, in_spec, Option.bind_some, Option.bind_some]
        by_cases h3 : 0 ≤ c.Turn ∧ c.Turn ≤ n
        · rw [decide_eq_true h3]
          exact ⟨0, rfl, rfl, fun _ => ⟨h1.1, h1.2, h2.1, h2.2, h3.1, by omega⟩⟩
        · rw [decide_eq_false h3]
          exact ⟨1, rfl, rfl, fun h => by cases h⟩
      rcases hk with h | h | h | h | h | h | h <;> rw [h] at key ⊢
      · exact key [0, 4, 7] [0, 4, 7] 2 rfl rfl rfl rfl rfl
      · exact key [0, 3, 7] [0, 3, 7] 2 rfl rfl rfl rfl rfl
      · exact key [0, 3, 6] [0, 3, 6] 2 rfl rfl rfl rfl rfl
      · exact key [0, 4, 8] [0, 4, 8] 2 rfl rfl rfl rfl rfl
      · exact key [0, 4, 7, 10] [0, 4, 7, 10] 3 rfl rfl rfl rfl rfl
      · exact key [0, 4, 7, 11] [0, 4, 7, 11] 3 rfl rfl rfl rfl rfl
      · exact key [0, 3, 7, 10] [0, 3, 7, 10] 3 rfl rfl rfl rfl rfl
    · rw [decide_eq_false h2, Bool.not_false, Bool.not_true, Bool.not_false, ifB_true, ifB_true]
      exact ⟨4, rfl, rfl, fun h => by cases h⟩
  · rw [decide_eq_false h1, Bool.not_false, ifB_true, ifB_true]
    exact ⟨1, rfl, rfl, fun h => by cases h⟩
/-- twelve half tones and more are nothing -/
theorem Shift_octaves {c : TChord} (h : ChOK c) {y : Int} (h0 : -3 ≤ y) (h1 : y ≤ 3) : m_chord_Shift c (w64 (12 * y)) = some (c, 0) := by
  have r0 := h.r0; have r1 := h.r1
  unfold m_chord_Shift
  rw [CheckChord_ok h, Option.bind_some, show ((0 : Int) != 0) = false from rfl, ifB_false, w64_id (n := 12 * y) (by omega), Outside_spec, Option.bind_some, decide_eq_true (by omega), Bool.not_true, ifB_false]
  have e : (w64 (((w64 (c.Root + 12 * y)).tmod 12) + 12)).tmod 12 = c.Root := by
    have hy : y = -3 ∨ y = -2 ∨ y = -1 ∨ y = 0 ∨ y = 1 ∨ y = 2 ∨ y = 3 := by omega
    have hr : c.Root = 0 ∨ c.Root = 1 ∨ c.Root = 2 ∨ c.Root = 3 ∨ c.Root = 4 ∨ c.Root = 5 ∨ c.Root = 6 ∨ c.Root = 7 ∨ c.Root = 8 ∨ c.Root = 9 ∨ c.Root = 10 ∨ c.Root = 11 := by omega
    rcases hr with h | h | h | h | h | h | h | h | h | h | h | h <;> rcases hy with rfl | rfl | rfl | rfl | rfl | rfl | rfl <;> rw [h] <;> rfl
  rw [e]
/-- the next note above with a tone -/
theorem low_loop (x : Int) (hx0 : 0 ≤ x) (hx1 : x ≤ 11) (low : Int) (h0 : 0 ≤ low) (h1 : low ≤ 1000) : ∃ l, loopM (m_gleekeep2_ChordsComeBack_l2 x) low = some (.brk l) ∧ low ≤ l ∧ l ≤ low + 11 ∧ l.tmod 12 = x := by
  obtain ⟨f, g1, g2⟩ := loopM_post (m_gleekeep2_ChordsComeBack_l2 x) (fun u => low ≤ u ∧ ∀ v, low ≤ v → v < u → v.tmod 12 ≠ x) (fun u => (low + 12 - u).toNat) (fun f => ∃ l, f = .brk l ∧ low ≤ l ∧ l ≤ low + 11 ∧ l.tmod 12 = x) (by
    rintro u ⟨a1, a2⟩
    have hu : u ≤ low + 11 := by
      rcases Int.lt_or_le (low + 11) u with h | h
      · exfalso
        have hv : low ≤ low + (x - low) % 12 ∧ low + (x - low) % 12 < u := by omega
        exact a2 _ hv.1 hv.2 (by
          rw [Int.tmod_eq_emod_of_nonneg (by omega)]
          omega)
      · exact h
    unfold m_gleekeep2_ChordsComeBack_l2
    by_cases h : u.tmod 12 = x
    · rw [show (u.tmod 12 != x) = false by simpa using h, ifB_false]
      exact .inr (.inl ⟨_, rfl, u, rfl, a1, hu, h⟩)
    · rw [show (u.tmod 12 != x) = true by simpa using h, ifB_true, w64_id (by omega)]
      refine .inl ⟨_, rfl, ⟨by omega, fun v b1 b2 => ?_⟩, by omega⟩
      by_cases e : v = u
      · subst e; exact h
      · exact a2 v b1 (by omega)) low ⟨Int.le_refl _, fun v b1 b2 => by omega⟩
  obtain ⟨l, rfl, g3⟩ := g2
  exact ⟨l, g1, g3⟩
end Go.G
