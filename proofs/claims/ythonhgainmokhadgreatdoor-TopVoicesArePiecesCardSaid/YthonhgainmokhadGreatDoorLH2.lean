/- LH2: which chords some notes make: the program's list is the reference's. In plain Lean, no program in sight. -/
import Derived.Test.YthonhgainmokhadGreatDoorLH1
namespace Go.G
open Go Go.J
theorem rangeM_app {α β ρ : Type} (step : Nat → α → List β → Option (Flow (List β) ρ)) (G : Nat → List β) (N B : Nat) (xs : List α) (s0 : List β) (h0 : s0.length ≤ N)
  (hG : ∀ i, i < xs.length → (G i).length ≤ B) (h : ∀ i x s, xs[i]? = some x → s.length ≤ N + i * B → step i x s = some (.nxt (s ++ G i))) : rangeM step 0 xs s0 = some (.brk (s0 ++ (List.range xs.length).flatMap G)) := by
 obtain ⟨s, h1, h2, -⟩ := rangeM_invx step xs (fun i s => s = s0 ++ (List.range i).flatMap G ∧ s.length ≤ N + i * B) (by
  rintro i x s hx ⟨rfl, hl⟩
  have hi := (List.getElem?_eq_some_iff.1 hx).1
  refine ⟨_, h i x _ hx hl, ?_, ?_⟩
  ·rw [List.range_succ, List.flatMap_append, List.append_assoc]; simp
  ·rw [List.length_append, Nat.add_mul]
   have := hG i hi
   omega) s0 ⟨by simp, by simpa using h0⟩
 rw [h1, h2]
theorem loop_to8 {β ρ : Type} (step : Int × List β → Option (Flow (Int × List β) ρ)) (G : Nat → List β) (N B : Nat) (hG : ∀ k, 1 ≤ k → k ≤ 7 → (G k).length ≤ B)
  (h : ∀ (k : Nat) s, 1 ≤ k → k ≤ 7 → s.length ≤ N + k * B → step ((k : Int), s) = some (.nxt (((k + 1 : Nat) : Int), s ++ G k))) (h8 : ∀ s, step (8, s) = some (.brk (8, s))) (s0 : List β) (h0 : s0.length ≤ N) :
  loopM step (1, s0) = some (.brk (8, s0 ++ (List.range 7).flatMap fun j => G (1 + j))) := by
 have key : ∀ (d k : Nat) (s : List β), k + d = 8 → 1 ≤ k → s.length ≤ N + k * B → loopM step ((k : Int), s) = some (.brk (8, s ++ (List.range d).flatMap fun j => G (k + j))) := by
  intro d
  induction d with
  | zero =>
   intro k s hk _ _
   have : k = 8 := by omega
   subst this
   rw [show ((8 : Nat) : Int) = 8 from rfl, loopM_step (h8 s), run_brk]; simp
  | succ d ih =>
   intro k s hk h1 hl
   rw [loopM_step (h k s h1 (by omega) hl), run_nxt]
   rw [ih (k + 1) (s ++ G k) (by omega) (by omega) (by rw [List.length_append, Nat.add_mul]; have := hG k h1 (by omega); omega)]
   rw [List.range_succ_eq_map, List.flatMap_cons, List.flatMap_map, List.append_assoc]
   simp only [Nat.add_zero, Nat.add_assoc, Nat.add_comm 1, Nat.succ_eq_add_one]
 exact key 7 1 s0 rfl (Nat.le_refl _) (by omega)
noncomputable def S (n : List Int) : List Int := Lib.compact ((n.map fun x => x.tmod 12).mergeSort fun x y => decide (x ≤ y))
theorem set_spec (n : List Int) (hl : n.length ≤ 1000) : m_chord_set n = some (S n) := by
 unfold m_chord_set
 rw [rangeM_filterMap m_chord_set_l1 (fun x => some (x.tmod 12)) n (fun i x s hx hs => by
  have hi := (List.getElem?_eq_some_iff.1 hx).1
  unfold m_chord_set_l1
  rw [appM_of (by simp; omega) (by omega)]; rfl), Option.bind_some, fin_brk, List.filterMap_eq_map']
 unfold m_slices_Sort_int_int
 rw [if_pos (by rw [List.length_map]; omega), Option.bind_some]
 unfold m_slices_Compact_int_int
 rw [if_pos (by rw [List.length_mergeSort, List.length_map]; omega), Option.bind_some]
 rfl
theorem S_perm {a b : List Int} (h : List.Perm a b) : S a = S b := by
 unfold S
 congr 1
 have tr : ∀ a b c : Int, decide (a ≤ b) = true → decide (b ≤ c) = true → decide (a ≤ c) = true := fun a b c h1 h2 => by simp at *; omega
 have to : ∀ a b : Int, (decide (a ≤ b) || decide (b ≤ a)) = true := fun a b => by simp; omega
 refine List.Perm.eq_of_pairwise (le := fun x y => decide (x ≤ y) = true) ?_ (List.pairwise_mergeSort tr to _) (List.pairwise_mergeSort tr to _) ((List.mergeSort_perm _ _).trans ((h.map _).trans (List.mergeSort_perm _ _).symm))
 intro x y _ _ h1 h2
 simp at h1 h2
 omega
theorem Min_spec (n : List Int) (h : n ≠ []) (hl : n.length ≤ 1000) : ∃ m, m_slices_Min_int_int n = some m ∧ m ∈ n := by
 have hp := List.length_pos_iff.2 h
 unfold m_slices_Min_int_int
 rw [decide_eq_false (by omega), ifB_false, getI_of (i := 0) (n := 0) rfl (List.getElem?_eq_getElem hp), Option.bind_some]
 obtain ⟨f, h1, m, i, rfl, h2⟩ := loopM_post (ρ := Int) (m_slices_Min_int_int_l1 n) (fun s => ∃ (m : Int) (i : Nat), s = (m, (i : Int)) ∧ m ∈ n ∧ i ≤ n.length) (fun s => n.length - s.2.toNat) (fun f => ∃ (m : Int) (i : Int), f = .brk (m, i) ∧ m ∈ n) (by
  rintro s ⟨m, i, rfl, hm, hi⟩
  unfold m_slices_Min_int_int_l1
  simp only
  by_cases hlt : (i : Int) < n.length
  ·left
   have hi' : i < n.length := by omega
   rw [decide_eq_true hlt, ifB_true, getI_nat, List.getElem?_eq_getElem hi', Option.bind_some, w64_id (by omega)]
   refine ⟨_, rfl, ⟨min m n[i], i + 1, by simp, ?_, by omega⟩, by simp only; omega⟩
   by_cases hle : m ≤ n[i]
   ·rw [Int.min_eq_left hle]; exact hm
   ·rw [Int.min_eq_right (by omega)]; exact List.getElem_mem hi'
  ·right; left
   rw [decide_eq_false hlt, ifB_false]
   exact ⟨_, rfl, m, i, rfl, hm⟩) (n[0], 1) ⟨n[0], 1, rfl, List.getElem_mem hp, hp⟩
 rw [h1, Option.bind_some, fin_brk]
 exact ⟨m, rfl, h2⟩
theorem EqualInt_spec (a b : List Int) : m_slices_Equal_int_int a b = some (decide (a = b)) := by
 unfold m_slices_Equal_int_int
 by_cases hl : a.length = b.length
 ·rw [show ((a.length : Int) != (b.length : Int)) = false by rw [hl]; simp, ifB_false]
  obtain ⟨f, h1, h2⟩ := rangeM_stop (m_slices_Equal_int_int_l1 b) a (fun i _ => a.take i = b.take i) (fun f => match f with | .nxt _ => False | .brk _ => a = b | .ret v => v = false ∧ a ≠ b) (by
   intro i x s hx hI
   have hi := (List.getElem?_eq_some_iff.1 hx).1
   have hb : b[i]? = some b[i] := List.getElem?_eq_getElem (by omega)
   unfold m_slices_Equal_int_int_l1
   rw [getI_nat, hb, Option.bind_some]
   by_cases he : x = b[i]
   ·rw [show (x != b[i]) = false by simpa using he]
    refine ⟨_, rfl, fun _ _ => ?_, by simp, by simp⟩
    rw [List.take_add_one, List.take_add_one, hI, hx, hb, he]
   ·rw [show (x != b[i]) = true by simpa using he]
    refine ⟨_, rfl, by simp, by simp, fun v hv => ?_⟩
    cases hv
    refine ⟨rfl, fun hab => he ?_⟩
    subst hab
    rw [hb] at hx
    exact (Option.some.inj hx).symm) (fun s hI => by
   rw [List.take_length, hl, List.take_length] at hI
   exact hI) () rfl
  rw [h1, Option.bind_some]
  cases f with
  | nxt s => exact h2.elim
  | brk s => rw [decide_eq_true h2]; rfl
  | ret v => rw [h2.1, decide_eq_false h2.2]; rfl
 ·rw [show ((a.length : Int) != (b.length : Int)) = true by simp; omega, ifB_true, decide_eq_false (fun h => hl (by rw [h]))]
theorem Index_eq (a : List Int) (v : Int) : m_slices_Index_int_int a v = ixM (fun x => some (v == x)) a := rfl
theorem Index_total (a : List Int) (v : Int) : ∃ i, m_slices_Index_int_int a v = some i := by
 obtain ⟨n, h, -⟩ := ixM_spec (fun x => some (v == x)) (fun x => v == x) a (fun _ _ => rfl)
 exact ⟨n, by rw [Index_eq]; exact h⟩
theorem Contains_spec (a : List Int) (v : Int) : m_slices_Contains_int_int a v = some (a.any fun x => v == x) := cfM_spec (fun x => some (v == x)) _ a (fun _ _ => rfl)
def chkR (r k : Nat) : Bool := match m_chord_tones ⟨r, k, 0⟩ with
 | some T => decide (T.length = klen k) && (List.range (klen k)).all (fun t => match m_gleeref2_TonesOf ⟨r, k, t⟩ with | some T' => T'.isPerm T && decide (T'[0]? = T[t]?) | none => false) &&
   T.all (fun v => match m_slices_Index_int_int T v with | some i => decide (((List.range (klen k)).filter fun t => decide (T[t]? = some v)).map (fun t : Nat => (t : Int)) = [i]) | none => false)
 | none => false
theorem chkR_all : ((List.range 12).all fun r => (List.range 8).all fun k => decide (k = 0) || chkR r k) = true := by decide +kernel
theorem chord_facts {r k : Nat} (hr : r < 12) (hk : 1 ≤ k ∧ k ≤ 7) : ∃ T, m_chord_tones ⟨r, k, 0⟩ = some T ∧ T.length = klen k ∧ (∀ x ∈ T, 0 ≤ x ∧ x ≤ 11) ∧
  (∀ t, t < klen k → ∃ T', m_gleeref2_TonesOf ⟨r, k, t⟩ = some T' ∧ List.Perm T' T ∧ T'[0]? = T[t]?) ∧
  ∀ v ∈ T, ∃ i, m_slices_Index_int_int T v = some i ∧ ((List.range (klen k)).filter fun t => decide (T[t]? = some v)).map (fun t : Nat => (t : Int)) = [i] := by
 have h := chkR_all
 rw [List.all_eq_true] at h
 have h := h r (List.mem_range.2 hr)
 rw [List.all_eq_true] at h
 have h := h k (List.mem_range.2 (by omega))
 have hk0 : decide (k = 0) = false := decide_eq_false (by omega)
 rw [hk0, Bool.false_or] at h
 obtain ⟨T, h1, -, -, h4⟩ := tones_spec hr hk (t := 0) (by omega)
 refine ⟨T, by simpa using h1, ?_⟩
 unfold chkR at h
 rw [show (TChord.mk (r : Int) (k : Int) 0) = ⟨r, k, (0 : Nat)⟩ from rfl, h1] at h
 simp only [Bool.and_eq_true, decide_eq_true_eq] at h
 obtain ⟨⟨h5, h6⟩, h7⟩ := h
 refine ⟨h5, h4, fun t ht => ?_, fun v hv => ?_⟩
 ·have h8 := List.all_eq_true.1 h6 t (List.mem_range.2 ht)
  split at h8
  ·rename_i T' h9
   simp only [Bool.and_eq_true, decide_eq_true_eq] at h8
   exact ⟨T', h9, List.isPerm_iff.1 h8.1, h8.2⟩
  ·cases h8
 ·have h8 := List.all_eq_true.1 h7 v hv
  split at h8
  ·rename_i i h9
   exact ⟨i, h9, by simpa using h8⟩
  ·cases h8
end Go.G
