/- LCh4: notes laid upward; sets; the chords of some notes. In plain Lean, no program in sight. -/
import Derived.Test.YtdeoejkgmeemaahGreatDoorLCh3
namespace Go.G
open Go Go.J
theorem Equal_refl (xs : List Int) : m_slices_Equal_int_int xs xs = some true := by
  unfold m_slices_Equal_int_int
  have h : ((xs.length : Int) != (xs.length : Int)) = false := by simp
  rw [h, ifB_false]
  obtain ⟨s', h1, -⟩ := rangeM_invx (m_slices_Equal_int_int_l1 xs) xs (fun _ _ => True) (fun i x s hx _ => ⟨s, by
    unfold m_slices_Equal_int_int_l1
    rw [getI_of rfl hx, Option.bind_some]
    simp, trivial⟩) () trivial
  rw [h1]; rfl
theorem Index_spec (xs : List Int) (a : Int) : ∃ r, m_slices_Index_int_int xs a = some r ∧ (r ≥ 0 ↔ a ∈ xs) := by
  have key : ∀ (t : List Int) (i : Nat), (∃ n : Nat, rangeM (m_slices_Index_int_int_l1 a) i t () = some (.ret (n : Int)) ∧ a ∈ t) ∨ (rangeM (m_slices_Index_int_int_l1 a) i t () = some (.brk ()) ∧ a ∉ t) := by
    intro t
    induction t with
    | nil => intro i; exact .inr ⟨rfl, by simp⟩
    | cons x t ih =>
      intro i
      by_cases h : a = x
      · exact .inl ⟨i, by rw [rangeM_cons]; simp [m_slices_Index_int_int_l1, h], by simp [h]⟩
      · have hb : (a == x) = false := by simpa using h
        have e : m_slices_Index_int_int_l1 a i x () = some (.nxt ()) := by simp [m_slices_Index_int_int_l1, hb]
        rcases ih (i + 1) with ⟨n, h1, h2⟩ | ⟨h1, h2⟩
        · exact .inl ⟨n, by rw [rangeM_cons, e]; simpa using h1, by simp [h2]⟩
        · exact .inr ⟨by rw [rangeM_cons, e]; simpa using h1, by simp [h, h2]⟩
  unfold m_slices_Index_int_int
  rcases key xs 0 with ⟨n, h1, h2⟩ | ⟨h1, h2⟩
  · exact ⟨n, by rw [h1]; rfl, by simp [h2]⟩
  · exact ⟨-1, by rw [h1]; rfl, by simp [h2]⟩
theorem notes_loop : ∀ (T : List Int) (i : Nat) (low : Int) (N : List Int), (∀ x ∈ T, 0 ≤ x ∧ x ≤ 11) → 36 ≤ low → low + 11 * T.length ≤ 900 → N.length + T.length ≤ 12 → (∀ n ∈ N, 36 ≤ n ∧ n ≤ low) →
    ∃ low' N', rangeM m_gleekeep2_ChordsComeBack_l1 i T (low, N) = some (.brk (low', N ++ N')) ∧ N'.map (·.tmod 12) = T ∧ (∀ n ∈ N', low ≤ n ∧ n ≤ low + 11 * T.length) ∧ N'.Pairwise (· ≤ ·)
  | [], i, low, N, _, _, _, _, _ => ⟨low, [], by rw [List.append_nil]; rfl, rfl, by simp, .nil⟩
  | x :: T, i, low, N, hT, h0, h1, hl, hN => by
    simp only [List.length_cons] at h1 hl
    have hx := hT x (List.mem_cons_self ..)
    obtain ⟨l, e1, e2, e3, e4⟩ := low_loop x hx.1 hx.2 low (by omega) (by omega)
    have s1 : m_gleekeep2_ChordsComeBack_l1 i x (low, N) = some (.nxt (l, N ++ [l])) := by
      unfold m_gleekeep2_ChordsComeBack_l1
      simp only
      rw [e1, Option.bind_some, fin_brk, appM_of (by simp; omega) (by omega)]
      rfl
    obtain ⟨low', N', g1, g2, g3, g4⟩ := notes_loop T (i + 1) l (N ++ [l]) (fun y hy => hT y (List.mem_cons_of_mem _ hy)) (by omega) (by omega) (by simp; omega) (fun n hn => by
      rcases List.mem_append.1 hn with h | h
      · have := hN n h; omega
      · rw [List.mem_singleton] at h; subst h; omega)
    refine ⟨low', l :: N', ?_, by rw [List.map_cons, g2, e4], fun n hn => ?_, List.Pairwise.cons (fun n hn => (g3 n hn).1) g4⟩
    · rw [rangeM_cons, s1, Option.bind_some, run_nxt, g1]; simp
    · simp only [List.length_cons]
      rcases List.mem_cons.1 hn with rfl | h
      · omega
      · have := g3 n h; omega
/-- the set of some tones -/
noncomputable def setM (l : List Int) : List Int := Lib.compact (l.mergeSort fun x y => decide (x ≤ y))
theorem set_spec (l : List Int) (hl : l.length ≤ 12) : m_chord_set l = some (setM (l.map (·.tmod 12))) := by
  unfold m_chord_set
  have h1 : rangeM m_chord_set_l1 0 l [] = some (.brk (l.map (·.tmod 12))) := by
    have := rangeM_filterMap (ρ := List Int) m_chord_set_l1 (fun x => some (x.tmod 12)) l (fun i x s hx hs => by
      have hi := (List.getElem?_eq_some_iff.1 hx).1
      unfold m_chord_set_l1
      rw [appM_of (by simp; omega) (by omega)]; rfl)
    rw [this, List.filterMap_eq_map']
  rw [h1, Option.bind_some, fin_brk]
  unfold m_slices_Sort_int_int m_slices_Compact_int_int
  rw [if_pos (by simp; omega), Option.bind_some, if_pos (by simp; omega)]
  rfl
theorem sort_perm {a b : List Int} (h : a.Perm b) : (a.mergeSort fun x y => decide (x ≤ y)) = b.mergeSort fun x y => decide (x ≤ y) := by
  have srt : ∀ l : List Int, (l.mergeSort fun x y => decide (x ≤ y)).Pairwise fun x y => decide (x ≤ y) = true := fun l =>
    List.pairwise_mergeSort (fun a b c h1 h2 => by simp only [decide_eq_true_eq] at *; omega) (fun a b => by simp only [Bool.or_eq_true, decide_eq_true_eq]; omega) l
  exact List.Perm.eq_of_pairwise (fun x y _ _ h1 h2 => by simp only [decide_eq_true_eq] at *; omega) (srt a) (srt b) ((List.mergeSort_perm _ _).trans (h.trans (List.mergeSort_perm _ _).symm))
theorem setM_perm {a b : List Int} (h : a.Perm b) : setM a = setM b := by unfold setM; rw [sort_perm h]
theorem map_tones {T : List Int} (h : ∀ x ∈ T, 0 ≤ x ∧ x ≤ 11) : T.map (·.tmod 12) = T := by
  conv => rhs; rw [← List.map_id T]
  refine List.map_congr_left fun x hx => ?_
  have := h x hx
  show x.tmod 12 = x
  rw [Int.tmod_eq_emod_of_nonneg this.1]; omega
/-- the least of rising notes is the first -/
theorem Min_first {n : Int} {N : List Int} (hl : N.length ≤ 100) (h : ∀ m ∈ N, n ≤ m) : m_slices_Min_int_int (n :: N) = some n := by
  unfold m_slices_Min_int_int
  rw [decide_eq_false (by simp; omega), ifB_false, show getI (n :: N) 0 = some n from getI_of (n := 0) rfl rfl, Option.bind_some]
  obtain ⟨f, h1, h2⟩ := loopM_post (m_slices_Min_int_int_l1 (n :: N)) (fun s => s.1 = n ∧ 1 ≤ s.2 ∧ s.2 ≤ N.length + 1) (fun s => (N.length + 2 - s.2).toNat) (fun f => ∃ k, f = .brk (n, k)) (by
    rintro ⟨a, k⟩ ⟨rfl, k1, k2⟩
    simp only at k1 k2
    unfold m_slices_Min_int_int_l1
    simp only
    by_cases hk : k < (((a :: N).length : Nat) : Int)
    · simp only [List.length_cons] at hk
      obtain ⟨j, hj⟩ : ∃ j : Nat, k = (j : Int) + 1 := ⟨k.toNat - 1, by omega⟩
      have hjl : j < N.length := by omega
      have hget : (a :: N)[j + 1]? = some N[j] := by simp [hjl]
      rw [decide_eq_true (by simp only [List.length_cons]; omega), ifB_true, getI_of (n := j + 1) (by omega) hget, Option.bind_some, w64_id (by omega)]
      have hm := h _ (List.getElem_mem hjl)
      simp only at hm
      exact .inl ⟨_, rfl, ⟨by simp only; omega, by simp only; omega, by simp only; omega⟩, by simp only; omega⟩
    · rw [decide_eq_false hk, ifB_false]
      exact .inr (.inl ⟨_, rfl, k, rfl⟩)) (n, 1) ⟨rfl, by omega, by omega⟩
  obtain ⟨k, rfl⟩ := h2
  rw [h1]; rfl
theorem Equal_total (a b : List Int) : ∃ e, m_slices_Equal_int_int a b = some e := by
  unfold m_slices_Equal_int_int
  by_cases h : a.length = b.length
  · rw [show ((a.length : Int) != (b.length : Int)) = false by simp [h], ifB_false]
    obtain ⟨f, h1, h2⟩ := rangeM_stop (m_slices_Equal_int_int_l1 b) a (fun _ _ => True) (fun f => ∃ e, (Flow.fin f fun _ => some true) = some e) (by
      intro i x s hx _
      have hi := (List.getElem?_eq_some_iff.1 hx).1
      unfold m_slices_Equal_int_int_l1
      rw [getI_of rfl (List.getElem?_eq_getElem (show i < b.length by omega)), Option.bind_some]
      cases hc : (x != b[i]) with
      | true => exact ⟨_, rfl, fun _ e => (by cases e), fun _ e => (by cases e), fun v e => by cases e; exact ⟨_, rfl⟩⟩
      | false => exact ⟨_, rfl, fun _ _ => trivial, fun _ e => (by cases e), fun _ e => (by cases e)⟩) (fun s _ => ⟨_, rfl⟩) () trivial
    obtain ⟨e, he⟩ := h2
    rw [h1, Option.bind_some]
    exact ⟨e, he⟩
  · rw [show ((a.length : Int) != (b.length : Int)) = true by simp; omega, ifB_true]
    exact ⟨_, rfl⟩
end Go.G
