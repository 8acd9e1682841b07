/- LAr: right acts of a club, as they are drawn. In plain Lean, no program in sight. -/
import Derived.Test.YtlhfimbpjdfdgadGreatDoorLAc
import Derived.Test.YtlhfimbpjdfdgadGreatDoorLY2
namespace Go.G
open Go Go.J
theorem RightActs_spec (L : List Int) {p n : Int} (hp : 0 ≤ p) (hp' : p ≤ 100000) (hn : 0 ≤ n) (hn' : n ≤ 20) : ∃ l q, m_gleemake_Stream_RightActs L p n = some (l, q) ∧ 0 ≤ q ∧ q ≤ p + 100 * n ∧ ActsOK l ∧ (l.length : Int) ≤ n ∧ ∀ x ∈ l, (0 ≤ x.At ∧ x.At ≤ 2592000000 * n) ∧ x.Site ≠ zzB ∧ x.Who ∈ whoL := by
 unfold m_gleemake_Stream_RightActs
 rw [rangeI_of (by omega), Option.bind_some]
 have hnil : ActsOK [] := ⟨by simp, by simp, by simp, by simp⟩
 obtain ⟨f, h1, h2⟩ := rangeM_stop (m_gleemake_Stream_RightActs_l1 L n) (List.range (5 : Int).toNat) (fun i u => 0 ≤ u ∧ u ≤ p + 20 * n * i)
  (fun f => (∃ u, f = .brk u ∧ 0 ≤ u ∧ u ≤ p + 100 * n) ∨ ∃ l q, f = .ret (l, q) ∧ 0 ≤ q ∧ q ≤ p + 100 * n ∧ ActsOK l ∧ (l.length : Int) ≤ n ∧ ∀ x ∈ l, (0 ≤ x.At ∧ x.At ≤ 2592000000 * n) ∧ x.Site ≠ zzB ∧ x.Who ∈ whoL) (by
  rintro i x u hx ⟨hu1, hu2⟩
  have hi : i < 5 := by simpa using (List.getElem?_eq_some_iff.1 hx).1
  have hin : 20 * n * (i : Int) ≤ 80 * n := by
   have : 20 * n * (i : Int) ≤ 20 * n * 4 := Int.mul_le_mul_of_nonneg_left (by omega) (by omega)
   omega
  obtain ⟨l, q, g1, g2, g3, g4, g5⟩ := Acts_spec L (p := u) (n := n) hu1 (by omega) hn hn'
  have e1 : 20 * n * ((i + 1 : Nat) : Int) = 20 * n * (i : Int) + 20 * n := by rw [show ((i + 1 : Nat) : Int) = (i : Int) + 1 by omega, Int.mul_add, Int.mul_one]
  unfold m_gleemake_Stream_RightActs_l1
  rw [g1, Option.bind_some]
  simp only
  rw [ActsFault_spec, Option.bind_some]
  by_cases h0 : actsF l = 0
  ·rw [show (actsF l == 0) = true by simpa using h0, ifB_true]
   refine ⟨_, rfl, fun _ h => (by cases h), fun _ h => (by cases h), fun v hv => ?_⟩
   cases hv
   exact .inr ⟨l, q, rfl, g2, by omega, (actsF_zero l).1 h0, by omega, g5⟩
  ·rw [show (actsF l == 0) = false by simpa using h0, ifB_false]
   refine ⟨_, rfl, fun s' h => ?_, fun _ h => (by cases h), fun _ h => (by cases h)⟩
   cases h
   exact ⟨g2, by rw [e1]; omega⟩) (fun u ⟨hu1, hu2⟩ => .inl ⟨u, rfl, hu1, by
    have : ((List.range (5 : Int).toNat).length : Int) = 5 := by simp
    rw [this] at hu2; omega⟩) p ⟨hp, by simp⟩
 rw [h1, Option.bind_some]
 rcases h2 with ⟨u, rfl, h3, h4⟩ | ⟨l, q, rfl, h3⟩
 ·exact ⟨[], u, rfl, h3, h4, hnil, by simpa using hn, by simp⟩
 ·exact ⟨l, q, rfl, h3⟩
end Go.G
