/- LAm: lists of acts put together, however long: sorted by contract. In plain Lean, no program in sight. -/
import Derived.Test.YtdmejijkjgdfaadGreatDoorLMg
namespace Go.G
open Go Go.J
set_option linter.unusedSimpArgs false
set_option linter.unusedVariables false
noncomputable def srtA (u : List TAct) : List TAct := u.mergeSort fun x y => !decide (cmpA y x < 0)
theorem srtA_perm (u : List TAct) : (srtA u).Perm u := List.mergeSort_perm _ _
theorem own_same {u : List TAct} (hnd : (u.map own).Nodup) {x y : TAct} (hx : x ∈ u) (hy : y ∈ u) (h : own x = own y) : x = y := by
  obtain ⟨i, hi, rfl⟩ := List.getElem_of_mem hx
  obtain ⟨j, hj, rfl⟩ := List.getElem_of_mem hy
  rw [List.nodup_iff_pairwise_ne, List.pairwise_map, List.pairwise_iff_getElem] at hnd
  rcases Nat.lt_trichotomy i j with g | g | g
  · exact absurd h (hnd i j hi hj g)
  · subst g; rfl
  · exact absurd h.symm (hnd j i hj hi g)
theorem RA_n {u : List TAct} (hnd : (u.map own).Nodup) {x y : TAct} (hx : x ∈ u) (hy : y ∈ u) (h : ¬ RA x y) : RA y x ∨ x = y := by
  by_cases e : own x = own y
  · exact .inr (own_same hnd hx hy e)
  · rcases RA_tri x y e with g | g
    · exact absurd g h
    · exact .inl g
theorem sortFM_A (cmp : TAct → TAct → Option Int) (u : List TAct) (hl : u.length ≤ 1000000) (hnd : (u.map own).Nodup) (h : ∀ x ∈ u, ∀ y ∈ u, ∃ c, cmp x y = some c ∧ (c < 0 ↔ RA x y)) : sortFM cmp u = some (srtA u) := by
  have ht : ∀ x ∈ u, ∀ y ∈ u, (ltM cmp x y = true ↔ RA x y) := fun x hx y hy => by
    obtain ⟨c, h1, h2⟩ := h x hx y hy
    unfold ltM
    rw [h1, decide_eq_true_eq]; exact h2
  have hf : ∀ x ∈ u, ∀ y ∈ u, (ltM cmp x y = false ↔ ¬ RA x y) := fun x hx y hy => by rw [← ht x hx y hy, Bool.not_eq_true]
  unfold sortFM
  rw [if_pos ⟨hl, fun x hx y hy => (h x hx y hy).imp fun c hc => hc.1, fun x hx => (hf x hx x hx).2 (RA_irr x), fun x hx y hy z hz h1 h2 => (ht x hx z hz).2 (RA_trans _ _ _ ((ht x hx y hy).1 h1) ((ht y hy z hz).1 h2)), fun x hx y hy z hz h1 h2 => (hf x hx z hz).2 fun h3 => by
      have h1 := (hf x hx y hy).1 h1
      have h2 := (hf y hy z hz).1 h2
      rcases RA_n hnd hx hy h1 with h4 | h4
      · exact h2 (RA_trans _ _ _ h4 h3)
      · subst h4; exact h2 h3, fun x hx y hy h1 h2 => by
      rcases RA_n hnd hx hy ((hf x hx y hy).1 h1) with h3 | h3
      · exact absurd h3 ((hf y hy x hx).1 h2)
      · exact h3⟩]
  have := List.map_mergeSort (r := fun x y : TAct => !ltM cmp y x) (s := fun x y => !decide (cmpA y x < 0)) (f := fun z : TAct => z) (l := u) (fun a ha b hb => by
    congr 1
    rw [Bool.eq_iff_iff, ht b hb a ha, decide_eq_true_eq, cmpA_lt])
  rw [List.map_id', List.map_id'] at this
  rw [this]; rfl
end Go.G
