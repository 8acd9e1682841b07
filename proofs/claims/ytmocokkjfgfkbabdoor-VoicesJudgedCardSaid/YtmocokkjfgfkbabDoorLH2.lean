/- LH2: which chords some notes make: the program's list is the reference's. In plain Lean, no program in sight. -/
import Derived.Test.YtmocokkjfgfkbabDoorLH1
namespace Go.G
open Go Go.J
/-! ### loops that append -/
theorem rangeM_app {α β ρ : Type} (step : Nat → α → List β → Option (Flow (List β) ρ)) (G : Nat → List β) (N B : Nat) (xs : List α) (s0 : List β) (h0 : s0.length ≤ N)
    (hG : ∀ i, i < xs.length → (G i).length ≤ B) (h : ∀ i x s, xs[i]? = some x → s.length ≤ N + i * B → step i x s = some (.nxt (s ++ G i))) : rangeM step 0 xs s0 = some (.brk (s0 ++ (List.range xs.length).flatMap G)) := by
  obtain ⟨s, h1, h2, -⟩ := rangeM_invx step xs (fun i s => s = s0 ++ (List.range i).flatMap G ∧ s.length ≤ N + i * B) (by
    rintro i x s hx ⟨rfl, hl⟩
    have hi := (List.getElem?_eq_some_iff.1 hx).1
    refine ⟨_, h i x _ hx hl, ?_, ?_⟩
    · rw [List.range_succ, List.flatMap_append, List.append_assoc]; simp
    · rw [List.length_append, Nat.add_mul]
      have := hG i hi
      omega) s0 ⟨by simp, by simpa using h0⟩
  rw [h1, h2]
theorem loop_to8 {β ρ : Type} (step : Int × List β → Option (Flow (Int × List β) ρ)) (G : Nat → List β) (N B : Nat) (hG : ∀ k, 1 ≤ k → k ≤ 7 → (G k).length ≤ B)
    (h : ∀ (k : Nat) s, 1 ≤ k → k ≤ 7 → s.length ≤ N + k * B → step ((k : Int), s) = some (.nxt (((k + 1 : Nat) : Int), s ++ G k))) (h8 : ∀ s, step (8, s) = some (.brk (8, s))) (s0 : List β) (h0 : s0.length ≤ N) :
    loopM step (1, s0) = some (.brk (8, s0 ++ (List.range 7).flatMap fun j => G (1 + j))) := by
  have key : ∀ (d k : Nat) (s : List β), k + d = 8 → 1 ≤ k → s.length ≤ N + k * B → loopM step ((k : Int), s) = some (.brk (8, s ++ (List.range d).flatMap fun j => G (k + j))) := by
    intro d
    induction d with
    | zero =>
      intro k s hk _ _
      have : k = 8 := by omega
      subst this
      rw [show ((8 : Nat) : Int) = 8 from rfl, loopM_step (h8 s), run_brk]; simp
    | succ d ih =>
      intro k s hk h1 hl
      rw [loopM_step (h k s h1 (by omega) hl), run_nxt]
      rw [ih (k + 1) (s ++ G k) (by omega) (by omega) (by rw [List.length_append, Nat.add_mul]; have := hG k h1 (by omega); omega)]
      rw [List.range_succ_eq_map, List.flatMap_cons, List.flatMap_map, List.append_assoc]
      simp only [Nat.add_zero, Nat.add_assoc, Nat.add_comm 1, Nat.succ_eq_add_one]
  exact key 7 1 s0 rfl (Nat.le_refl _) (by omega)
/-! ### the set of some notes -/
noncomputable def S (n : List Int) : List Int := Lib.compact ((n.map fun x => x.tmod 12).mergeSort fun x y => decide (x ≤ y))
theorem set_spec (n : List Int) (hl : n.length ≤ 1000) : m_chord_set n = some (S n) := by
  unfold m_chord_set
  rw [rangeM_filterMap m_chord_set_l1 (fun x => some (x.tmod 12)) n (fun i x s hx hs => by
    have hi := (List.getElem?_eq_some_iff.1 hx).1
    unfold m_chord_set_l1
    rw [appM_of (by simp; omega) (by omega)]; rfl), Option.bind_some, fin_brk, List.filterMap_eq_map']
  unfold m_slices_Sort_int_int
  rw [if_pos (by rw [List.length_map]; omega), Option.bind_some]
  unfold m_slices_Compact_int_int
  rw [if_pos (by rw [List.length_mergeSort, List.length_map]; omega), Option.bind_some]
  rfl
theorem classes_spec (n : List Int) (hl : n.length ≤ 1000) : m_gleeref2_classes n = some (S n) := set_spec n hl
theorem mem_compact {zs : List Int} {y : Int} (h : y ∈ zs) : y ∈ Lib.compact zs := by
  have key : ∀ j (hj : j < zs.length), zs[j] ∈ Lib.compact zs := by
    intro j
    induction j with
    | zero =>
      intro hj
      unfold Lib.compact Lib.compactUpTo
      refine List.mem_map.2 ⟨0, List.mem_filter.2 ⟨List.mem_range.2 hj, by simp [Lib.keeps]⟩, by simp [hj]⟩
    | succ j ih =>
      intro hj
      by_cases he : zs[j + 1] = zs[j]
      · rw [he]; exact ih (by omega)
      · unfold Lib.compact Lib.compactUpTo
        refine List.mem_map.2 ⟨j + 1, List.mem_filter.2 ⟨List.mem_range.2 hj, ?_⟩, by simp [hj]⟩
        unfold Lib.keeps
        rw [decide_eq_true_eq]
        refine .inr ?_
        simpa [hj, show j < zs.length by omega] using he
  obtain ⟨j, hj, rfl⟩ := List.getElem_of_mem h
  exact key j hj
theorem mem_S {n : List Int} {x : Int} (h : x ∈ n) : x.tmod 12 ∈ S n := mem_compact (List.mem_mergeSort.2 (List.mem_map.2 ⟨x, h, rfl⟩))
/-! ### the library's loops -/
theorem Min_spec (n : List Int) (h : n ≠ []) (hl : n.length ≤ 1000) : ∃ m, m_slices_Min_int_int n = some m ∧ m ∈ n := by
  have hp := List.length_pos_iff.2 h
  unfold m_slices_Min_int_int
  rw [decide_eq_false (by omega), ifB_false, getI_of (i := 0) (n := 0) rfl (List.getElem?_eq_getElem hp), Option.bind_some]
  obtain ⟨f, h1, m, i, rfl, h2⟩ := loopM_post (ρ := Int) (m_slices_Min_int_int_l1 n) (fun s => ∃ (m : Int) (i : Nat), s = (m, (i : Int)) ∧ m ∈ n ∧ i ≤ n.length) (fun s => n.length - s.2.toNat) (fun f => ∃ (m : Int) (i : Int), f = .brk (m, i) ∧ m ∈ n) (by
    rintro s ⟨m, i, rfl, hm, hi⟩
    unfold m_slices_Min_int_int_l1
    simp only
    by_cases hlt : (i : Int) < n.length
    · left
      have hi' : i < n.length := by omega
      rw [decide_eq_true hlt, ifB_true, getI_nat, List.getElem?_eq_getElem hi', Option.bind_some, w64_id (by omega)]
      refine ⟨_, rfl, ⟨min m n[i], i + 1, by simp, ?_, by omega⟩, by simp only; omega⟩
      by_cases hle : m ≤ n[i]
      · rw [Int.min_eq_left hle]; exact hm
      · rw [Int.min_eq_right (by omega)]; exact List.getElem_mem hi'
    · right; left
      rw [decide_eq_false hlt, ifB_false]
      exact ⟨_, rfl, m, i, rfl, hm⟩) (n[0], 1) ⟨n[0], 1, rfl, List.getElem_mem hp, hp⟩
  rw [h1, Option.bind_some, fin_brk]
  exact ⟨m, rfl, h2⟩
theorem EqualInt_spec (a b : List Int) : m_slices_Equal_int_int a b = some (decide (a = b)) := by
  unfold m_slices_Equal_int_int
  by_cases hl : a.length = b.length
  · rw [show ((a.length : Int) != (b.length : Int)) = false by rw [hl]; simp, ifB_false]
    obtain ⟨f, h1, h2⟩ := rangeM_stop (m_slices_Equal_int_int_l1 b) a (fun i _ => a.take i = b.take i) (fun f => match f with | .nxt _ => False | .brk _ => a = b | .ret v => v = false ∧ a ≠ b) (by
      intro i x s hx hI
      have hi := (List.getElem?_eq_some_iff.1 hx).1
      have hb : b[i]? = some b[i] := List.getElem?_eq_getElem (by omega)
      unfold m_slices_Equal_int_int_l1
      rw [getI_nat, hb, Option.bind_some]
      by_cases he : x = b[i]
      · rw [show (x != b[i]) = false by simpa using he]
        refine ⟨_, rfl, fun _ _ => ?_, by simp, by simp⟩
        rw [List.take_add_one, List.take_add_one, hI, hx, hb, he]
      · rw [show (x != b[i]) = true by simpa using he]
        refine ⟨_, rfl, by simp, by simp, fun v hv => ?_⟩
        cases hv
        refine ⟨rfl, fun hab => he ?_⟩
        subst hab
        rw [hb] at hx
        exact (Option.some.inj hx).symm) (fun s hI => by
      rw [List.take_length, hl, List.take_length] at hI
      exact hI) () rfl
    rw [h1, Option.bind_some]
    cases f with
    | nxt s => exact h2.elim
    | brk s => rw [decide_eq_true h2]; rfl
    | ret v => rw [h2.1, decide_eq_false h2.2]; rfl
  · rw [show ((a.length : Int) != (b.length : Int)) = true by simp; omega, ifB_true, decide_eq_false (fun h => hl (by rw [h]))]
/-! ### what is so of all chords, looked at one by one -/
end Go.G
