/- LH2: which chords some notes make: the program's list is the reference's. In plain Lean, no program in sight. -/
import Derived.Test.YtmcooogdeocldaaDoorLH1
namespace Go.G
open Go Go.J
/-! ### loops that append -/
theorem rangeM_app {α β ρ : Type} (step : Nat → α → List β → Option (Flow (List β) ρ)) (G : Nat → List β) (N B : Nat) (xs : List α) (s0 : List β) (h0 : s0.length ≤ N)
    (hG : ∀ i, i < xs.length → (G i).length ≤ B) (h : ∀ i x s, xs[i]? = some x → s.length ≤ N + i * B → step i x s = some (.nxt (s ++ G i))) : rangeM step 0 xs s0 = some (.brk (s0 ++ (List.range xs.length).flatMap G)) := by
  obtain ⟨s, h1, h2, -⟩ := rangeM_invx step xs (fun i s => s = s0 ++ (List.range i).flatMap G ∧ s.length ≤ N + i * B) (by
    rintro i x s hx ⟨rfl, hl⟩
    have hi := (List.getElem?_eq_some_iff.1 hx).1
    refine ⟨_, h i x _ hx hl, ?_, ?_⟩
    · rw [List.range_succ, List.flatMap_append, List.append_assoc]; simp
    · rw [List.length_append, Nat.add_mul]
      have := hG i hi
      omega) s0 ⟨by simp, by simpa using h0⟩
  rw [h1, h2]
theorem loop_to8 {β ρ : Type} (step : Int × List β → Option (Flow (Int × List β) ρ)) (G : Nat → List β) (N B : Nat) (hG : ∀ k, 1 ≤ k → k ≤ 7 → (G k).length ≤ B)
    (h : ∀ (k : Nat) s, 1 ≤ k → k ≤ 7 → s.length ≤ N + k * B → step ((k : Int), s) = some (.nxt (((k + 1 : Nat) : Int), s ++ G k))) (h8 : ∀ s, step (8, s) = some (.brk (8, s))) (s0 : List β) (h0 : s0.length ≤ N) :
    loopM step (1, s0) = some (.brk (8, s0 ++ (List.range 7).flatMap fun j => G (1 + j))) := by
  have key : ∀ (d k : Nat) (s : List β), k + d = 8 → 1 ≤ k → s.length ≤ N + k * B → loopM step ((k : Int), s) = some (.brk (8, s ++ (List.range d).flatMap fun j => G (k + j))) := by
    intro d
    induction d with
    | zero =>
      intro k s hk _ _
      have : k = 8 := by omega
      subst this
      rw [show ((8 : Nat) : Int) = 8 from rfl, loopM_step (h8 s), run_brk]; simp
    | succ d ih =>
      intro k s hk h1 hl
      rw [loopM_step (h k s h1 (by omega) hl), run_nxt]
      rw [ih (k + 1) (s ++ G k) (by omega) (by omega) (by rw [List.length_append, Nat.add_mul]; have := hG k h1 (by omega); omega)]
      rw [List.range_succ_eq_map, List.flatMap_cons, List.flatMap_map, List.append_assoc]
      simp only [Nat.add_zero, Nat.add_assoc, Nat.add_comm 1, Nat.succ_eq_add_one]
  exact key 7 1 s0 rfl (Nat.le_refl _) (by omega)
/-! ### the set of some notes -/
noncomputable def S (n : List Int) : List Int := Lib.compact ((n.map fun x => x.tmod 12).mergeSort fun x y => decide (x ≤ y))
/-! ### the library's loops -/
theorem EqualInt_spec (a b : List Int) : m_slices_Equal_int_int a b = some (decide (a = b)) := by
  unfold m_slices_Equal_int_int
  by_cases hl : a.length = b.length
  · rw [show ((a.length : Int) != (b.length : Int)) = false by rw [hl]; simp, ifB_false]
    obtain ⟨f, h1, h2⟩ := rangeM_stop (m_slices_Equal_int_int_l1 b) a (fun i _ => a.take i = b.take i) (fun f => match f with | .nxt _ => False | .brk _ => a = b | .ret v => v = false ∧ a ≠ b) (by
      intro i x s hx hI
      have hi := (List.getElem?_eq_some_iff.1 hx).1
      have hb : b[i]? = some b[i] := List.getElem?_eq_getElem (by omega)
      unfold m_slices_Equal_int_int_l1
      rw [getI_nat, hb, Option.bind_some]
      by_cases he : x = b[i]
      · rw [show (x != b[i]) = false by simpa using he]
        refine ⟨_, rfl, fun _ _ => ?_, by simp, by simp⟩
        rw [List.take_add_one, List.take_add_one, hI, hx, hb, he]
      · rw [show (x != b[i]) = true by simpa using he]
        refine ⟨_, rfl, by simp, by simp, fun v hv => ?_⟩
        cases hv
        refine ⟨rfl, fun hab => he ?_⟩
        subst hab
        rw [hb] at hx
        exact (Option.some.inj hx).symm) (fun s hI => by
      rw [List.take_length, hl, List.take_length] at hI
      exact hI) () rfl
    rw [h1, Option.bind_some]
    cases f with
    | nxt s => exact h2.elim
    | brk s => rw [decide_eq_true h2]; rfl
    | ret v => rw [h2.1, decide_eq_false h2.2]; rfl
  · rw [show ((a.length : Int) != (b.length : Int)) = true by simp; omega, ifB_true, decide_eq_false (fun h => hl (by rw [h]))]
/-! ### what is so of all chords, looked at one by one -/
end Go.G
