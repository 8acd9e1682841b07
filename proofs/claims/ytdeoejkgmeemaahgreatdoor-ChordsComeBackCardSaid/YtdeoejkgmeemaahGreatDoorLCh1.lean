/- LCh1: chords: valid ones one by one; a name is read back. In plain Lean, no program in sight. -/
import Derived.Test.YtdeoejkgmeemaahGreatDoorLG1
import Derived.Test.YtdeoejkgmeemaahGreatDoorLQ1
import Derived.Test.YtdeoejkgmeemaahGreatDoorLG1
import Derived.Lib.ItoaMem
namespace Go.G
open Go Go.J
/-- how many tones a kind has -/
def manyT (k : Int) : Int := if k = 5 ∨ k = 6 ∨ k = 7 then 4 else 3
/-- a right chord -/
structure ChOK (c : TChord) : Prop where
  r0 : 0 ≤ c.Root
  r1 : c.Root ≤ 11
  k0 : 1 ≤ c.Kind
  k1 : c.Kind ≤ 7
  t0 : 0 ≤ c.Turn
  t1 : c.Turn < manyT c.Kind
theorem upto {n : Nat} {z : Int} (h0 : 0 ≤ z) (h1 : z < n) : ∃ i : Nat, i < n ∧ z = i := ⟨z.toNat, by omega, by omega⟩
/-- a fact of all right chords is a fact of each of 288 -/
theorem chord_cases {Q : TChord → Prop} (h : ∀ r : Nat, r < 12 → ∀ k : Nat, k < 7 → ∀ t : Nat, t < 4 → (t : Int) < manyT ((k : Int) + 1) → Q ⟨(r : Int), (k : Int) + 1, (t : Int)⟩) {c : TChord} (hc : ChOK c) : Q c := by
  obtain ⟨r, hr, e1⟩ := upto hc.r0 (n := 12) (by have := hc.r1; omega)
  obtain ⟨k, hk, e2⟩ := upto (z := c.Kind - 1) (n := 7) (by have := hc.k0; omega) (by have := hc.k1; omega)
  have ht4 : c.Turn < 4 := by have := hc.t1; unfold manyT at this; split at this <;> omega
  obtain ⟨t, ht, e3⟩ := upto hc.t0 (n := 4) (by omega)
  have e2' : c.Kind = (k : Int) + 1 := by omega
  have := h r hr k hk t ht (by rw [← e2', ← e3]; exact hc.t1)
  rw [← e1, ← e2', ← e3] at this
  exact this
theorem CheckChord_ok {c : TChord} (h : ChOK c) : m_chord_CheckChord c = some 0 := by
  refine chord_cases (Q := fun c => m_chord_CheckChord c = some 0) (fun r hr k hk t ht hm => ?_) h
  have hk' : k = 0 ∨ k = 1 ∨ k = 2 ∨ k = 3 ∨ k = 4 ∨ k = 5 ∨ k = 6 := by omega
  unfold manyT at hm
  unfold m_chord_CheckChord m_chord_isKind
  rw [Outside_spec, Option.bind_some]
  simp only
  rw [decide_eq_true (show (0 : Int) ≤ (r : Int) ∧ (r : Int) ≤ 11 by omega), Bool.not_true, ifB_false, Outside_spec]
  simp only [Option.bind_some]
  rw [decide_eq_true (show (1 : Int) ≤ (k : Int) + 1 ∧ (k : Int) + 1 ≤ 7 by omega), Bool.not_true, Bool.not_false, Bool.not_true, ifB_false]
  unfold m_chord_above
  rcases hk' with rfl | rfl | rfl | rfl | rfl | rfl | rfl
  all_goals
    have ht' : t = 0 ∨ t = 1 ∨ t = 2 ∨ t = 3 := by omega
    rcases ht' with rfl | rfl | rfl | rfl
    all_goals first
      | rfl
      | (exfalso; revert hm; decide)
/-- a name is read back -/
theorem name_back {c : TChord} (h : ChOK c) : ∃ s, m_chord_Name c = some (s, 0) ∧ m_chord_Parse s = some (c, 0) := by
  have hI : ∀ n : Nat, n < 10 → m_strconv_Itoa (n : Int) = some ⟨#[UInt8.ofNat (48 + n)]⟩ := fun n hn => by
    unfold m_strconv_Itoa
    rw [if_pos (by omega), Lib.itoa_nonneg n, Lib.decDigits_one (by omega)]
  have hc := CheckChord_ok h
  revert hc
  refine chord_cases (Q := fun c => m_chord_CheckChord c = some 0 → ∃ s, m_chord_Name c = some (s, 0) ∧ m_chord_Parse s = some (c, 0)) (fun r hr k hk t ht hm hc => ?_) h
  unfold m_chord_Name
  rw [hc, Option.bind_some, show ((0 : Int) != 0) = false from rfl, ifB_false, hI t (by omega)]
  clear hI hc h
  unfold manyT at hm
  have hr' : r = 0 ∨ r = 1 ∨ r = 2 ∨ r = 3 ∨ r = 4 ∨ r = 5 ∨ r = 6 ∨ r = 7 ∨ r = 8 ∨ r = 9 ∨ r = 10 ∨ r = 11 := by omega
  have hk' : k = 0 ∨ k = 1 ∨ k = 2 ∨ k = 3 ∨ k = 4 ∨ k = 5 ∨ k = 6 := by omega
  have ht' : t = 0 ∨ t = 1 ∨ t = 2 ∨ t = 3 := by omega
  rcases hr' with rfl | rfl | rfl | rfl | rfl | rfl | rfl | rfl | rfl | rfl | rfl | rfl <;> rcases hk' with rfl | rfl | rfl | rfl | rfl | rfl | rfl <;> rcases ht' with rfl | rfl | rfl | rfl <;>
    first
      | (exfalso; revert hm; decide)
      | exact ⟨_, rfl, by kernel_rfl⟩
end Go.G
