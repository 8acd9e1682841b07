/- LCh5: the law of chords that come back. In plain Lean, no program in sight. -/
import Derived.Test.YtdeoejkgmeemaahGreatDoorLCh4
import Derived.Test.YtdeoejkgmeemaahGreatDoorLR1
namespace Go.G
open Go Go.J
theorem notesFault_zero {N : List Int} {m : Int} (h0 : N ≠ []) (h1 : (N.length : Int) ≤ m) (h : ∀ n ∈ N, 0 ≤ n ∧ n ≤ 127) : m_chord_notesFault N m = some 0 := by
  have hl : N.length ≠ 0 := fun h => h0 (List.eq_nil_of_length_eq_zero h)
  unfold m_chord_notesFault m_slices_ContainsFunc_int_int__chord_notesFault_1
  rw [show ((N.length : Int) == 0) = false from beq_eq_false_iff_ne.2 (by omega), ifB_false, decide_eq_false (by omega), ifB_false]
  rw [show m_slices_IndexFunc_int_int__chord_notesFault_1 N = ixM m_chord_notesFault_1 N from rfl]
  obtain ⟨k, k1, k2⟩ := ixM_spec m_chord_notesFault_1 (fun _ => false) N (fun n hn => by
    unfold m_chord_notesFault_1
    rw [Outside_spec, Option.bind_some, decide_eq_true (h n hn)]; rfl)
  rw [k1]
  rcases k2 with ⟨rfl, -⟩ | ⟨j, rfl, -, -, x, -, hd⟩
  · rfl
  · cases hd
theorem Contains_mem {l : List TChord} {c : TChord} (h : c ∈ l) : m_slices_Contains_api_Chord_api_Chord l c = some true := by
  unfold m_slices_Contains_api_Chord_api_Chord m_slices_Index_api_Chord_api_Chord
  obtain ⟨f, h1, h2⟩ := rangeM_stop (m_slices_Index_api_Chord_api_Chord_l1 c) l (fun i _ => ∀ j x, j < i → l[j]? = some x → x ≠ c)
    (fun f => (Flow.fin f fun _ => some (-1 : Int)).bind (fun y => some (decide (y ≥ 0))) = some true) (by
    intro i x u hx hI
    unfold m_slices_Index_api_Chord_api_Chord_l1
    by_cases he : c = x
    · rw [decide_eq_true he, ifB_true]
      refine ⟨_, rfl, fun _ e => (by cases e), fun _ e => (by cases e), fun v e => ?_⟩
      cases e
      simp [Flow.fin]
    · rw [decide_eq_false he, ifB_false]
      refine ⟨_, rfl, fun s' _ j y hj hy => ?_, fun _ e => (by cases e), fun _ e => (by cases e)⟩
      rcases Nat.lt_succ_iff_lt_or_eq.1 hj with h | rfl
      · exact hI j y h hy
      · rw [hx] at hy; cases hy; exact fun h => he h.symm) (fun u hI => by
    exfalso
    obtain ⟨j, hj, e⟩ := List.getElem_of_mem h
    exact hI j c hj (by rw [List.getElem?_eq_getElem hj, e]) rfl) () (fun j x hj => by omega)
  rw [h1, Option.bind_some]
  exact h2
theorem Of_has {c : TChord} (h : ChOK c) {n : Int} {N T T0 : List Int} (_ : m_chord_tones c = some T) (e2 : m_chord_tones ⟨c.Root, c.Kind, 0⟩ = some T0) (hT : ∀ x ∈ T, 0 ≤ x ∧ x ≤ 11) (hp : T.Perm T0) (hi : m_slices_Index_int_int T0 (T.headD 0) = some c.Turn)
    (hl : T.length ≤ 4) (hN : (n :: N).map (·.tmod 12) = T) (hr : ∀ m ∈ n :: N, 36 ≤ m ∧ m ≤ 100) (hs : (n :: N).Pairwise (· ≤ ·)) : ∃ l, m_chord_Of (n :: N) = some (l, 0) ∧ c ∈ l := by
  have hlen : (n :: N).length = T.length := by rw [← hN, List.length_map]
  have hhead : T.headD 0 = n.tmod 12 := by rw [← hN]; rfl
  have r0 := h.r0; have r1 := h.r1; have k0 := h.k0; have k1 := h.k1
  have hT0 : ∀ x ∈ T0, 0 ≤ x ∧ x ≤ 11 := fun x hx => hT x (hp.symm.subset hx)
  unfold m_chord_Of
  rw [notesFault_zero (by simp) (by omega) (fun m hm => by have := hr m hm; omega), Option.bind_some, show ((0 : Int) != 0) = false from rfl, ifB_false, set_spec _ (by omega), Option.bind_some, hN,
    Min_first (by simp only [List.length_cons] at hlen; omega) (fun m hm => (List.pairwise_cons.1 hs).1 m hm), Option.bind_some, rangeI_of (by omega), Option.bind_some]
  -- one kind
  have hkind : ∀ (i : Nat) (k : Int) (q : List TChord), i < 12 → 1 ≤ k → k ≤ 7 → q.length ≤ 200 → ∃ q', m_chord_Of_l2 (setM T) n i (k, q) = some (.nxt (k + 1, q')) ∧ q'.length ≤ q.length + 1 ∧ (∀ x ∈ q, x ∈ q') ∧ (c.Root = i → c.Kind = k → c ∈ q') := by
    intro i k q hi12 hk0 hk1 hq
    have hok : ChOK ⟨(i : Int), k, 0⟩ := ⟨by simp only; omega, by simp only; omega, hk0, hk1, Int.le_refl _, by unfold manyT; simp only; split <;> omega⟩
    obtain ⟨A, -, a1, -, a2, a3, a4, -, -⟩ := tones_of hok
    unfold m_chord_Of_l2
    simp only
    rw [decide_eq_true hk1, ifB_true, a1, Option.bind_some, set_spec A (by omega), Option.bind_some, map_tones a4]
    obtain ⟨e, he⟩ := Equal_total (setM A) (setM T)
    rw [he, Option.bind_some, w64_id (by omega)]
    cases e with
    | false =>
      refine ⟨q, rfl, by omega, fun _ h => h, fun g1 g2 => ?_⟩
      exfalso
      rw [← g1, ← g2, e2] at a1
      cases a1
      rw [setM_perm hp.symm, Equal_refl] at he
      cases he
    | true =>
      obtain ⟨t, ht, -⟩ := Index_spec A (n.tmod 12)
      rw [ifB_true, ht, Option.bind_some, appM_of (by simp; omega) (by omega), Option.bind_some]
      refine ⟨_, rfl, by simp, fun x hx => List.mem_append_left _ hx, fun g1 g2 => ?_⟩
      rw [← g1, ← g2, e2] at a1
      cases a1
      rw [hhead] at hi
      rw [hi] at ht
      cases ht
      rw [← g1, ← g2]
      simp
  obtain ⟨s, s1, s2, s3⟩ := rangeM_invx (m_chord_Of_l1 (setM T) n) (List.range (12 : Int).toNat) (fun i q => q.length ≤ 7 * i ∧ (c.Root < i → c ∈ q)) (by
    rintro i x q hx ⟨q1, q2⟩
    have hi12 : i < 12 := by have := (List.getElem?_eq_some_iff.1 hx).1; simpa using this
    unfold m_chord_Of_l1
    obtain ⟨f, g1, g2⟩ := loopM_post (m_chord_Of_l2 (setM T) n i) (fun u => 1 ≤ u.1 ∧ u.1 ≤ 8 ∧ (u.2.length : Int) ≤ q.length + (u.1 - 1) ∧ (∀ x ∈ q, x ∈ u.2) ∧ (c.Root = i → c.Kind < u.1 → c ∈ u.2)) (fun u => (9 - u.1).toNat)
      (fun f => ∃ u : Int × List TChord, f = .brk u ∧ u.2.length ≤ q.length + 7 ∧ (∀ x ∈ q, x ∈ u.2) ∧ (c.Root = i → c ∈ u.2)) (by
      rintro ⟨k, u⟩ ⟨u1, u2, u3, u4, u5⟩
      simp only at u1 u2 u3 u4 u5
      by_cases hk : k ≤ 7
      · obtain ⟨q', v1, v2, v3, v4⟩ := hkind i k u hi12 u1 hk (by omega)
        refine .inl ⟨_, v1, ⟨by simp only; omega, by simp only; omega, by simp only; omega, fun x hx => v3 x (u4 x hx), fun w1 w2 => ?_⟩, by simp only; omega⟩
        by_cases e : c.Kind = k
        · exact v4 w1 e
        · exact v3 c (u5 w1 (by simp only at w2; omega))
      · refine .inr (.inl ⟨_, ?_, (k, u), rfl, by simp only; omega, u4, fun w => u5 w (by omega)⟩)
        unfold m_chord_Of_l2
        simp only
        rw [decide_eq_false hk, ifB_false]) (1, q) ⟨Int.le_refl _, by simp only; omega, by simp only; omega, fun _ h => h, fun _ w => by simp only at w; omega⟩
    obtain ⟨u, rfl, g3, g4, g5⟩ := g2
    rw [g1]
    refine ⟨u.2, rfl, by omega, fun hh => ?_⟩
    by_cases e : c.Root = i
    · exact g5 e
    · exact g4 c (q2 (by omega))) [] ⟨by simp, fun hh => by omega⟩
  rw [s1]
  exact ⟨s, rfl, s3 (by simp; omega)⟩
/-- THE LAW: at every seed the answer is true. -/
theorem ChordsComeBack_true (L : List Int) : m_gleekeep2_ChordsComeBack L = some true := by
  unfold m_gleekeep2_ChordsComeBack
  obtain ⟨c, q, h1, h2, h3⟩ := AChord_some L
  obtain ⟨k, f1, f2, f3⟩ := fault_eq c
  rw [h1, Option.bind_some]
  simp only
  rw [f2, Option.bind_some]
  by_cases hk : k = 0
  · have h := f3 hk
    subst hk
    obtain ⟨nm, n1, n2⟩ := name_back h
    obtain ⟨T, T0, t1, t2, t3, t4, t5, t6, t7⟩ := tones_of h
    obtain ⟨y, y1, y2, y3⟩ := Range_spec L (p := q) (a := -3) (b := 3) (by omega) (by omega) (by omega) (by omega) (by omega)
    obtain ⟨low, N', l1, l2, l3, l4⟩ := notes_loop T 0 36 [] t5 (by omega) (by omega) (by simp; omega) (by simp)
    have hTones : m_chord_Tones c = some (T, 0) := by
      unfold m_chord_Tones
      rw [f1, Option.bind_some, show ((0 : Int) != 0) = false from rfl, ifB_false, t1]; rfl
    cases N' with
    | nil => exact (t4 l2.symm).elim
    | cons n N =>
      have hr : ∀ m ∈ n :: N, 36 ≤ m ∧ m ≤ 100 := fun m hm => by have := l3 m hm; omega
      have hlen : (n :: N).length = T.length := by rw [← l2, List.length_map]
      obtain ⟨l, o1, o2⟩ := Of_has h t1 t2 t5 t6 t7 t3 l2 hr l4
      have hFits : m_chord_Fits c (n :: N) = some (true, 0) := by
        unfold m_chord_Fits m_chord_fits
        rw [f1, Option.bind_some, show ((0 : Int) != 0) = false from rfl, ifB_false, notesFault_zero (by simp) (by omega) (fun m hm => by have := hr m hm; omega), Option.bind_some, show ((0 : Int) != 0) = false from rfl, ifB_false, t1, Option.bind_some,
          show getI (n :: N) 0 = some n from getI_of (n := 0) rfl rfl, Option.bind_some]
        have hT0 : getI T 0 = some (n.tmod 12) := by rw [← l2]; exact getI_of (n := 0) rfl rfl
        rw [hT0, Option.bind_some, beq_self_eq_true, ifB_true, set_spec _ (by omega), Option.bind_some, set_spec T (by omega), Option.bind_some, l2, map_tones t5, Equal_refl]
        rfl
      rw [show ((0 : Int) != 0) = false from rfl, ifB_false, n1, Option.bind_some]
      simp only
      rw [n2, Option.bind_some, hTones, Option.bind_some, y1, Option.bind_some]
      simp only
      rw [Shift_octaves h y2 y3, Option.bind_some, Option.bind_some, fin_inl]
      simp only
      rw [show m_gleekeep2_errs [0, 0, 0, 0] = some 0 by kernel_rfl, Option.bind_some, show ((0 : Int) != 0) = false from rfl, ifB_false]
      simp only [decide_true, Bool.not_true, ifB_false, Option.bind_some, fin_inl]
      rw [l1, Option.bind_some, fin_brk]
      simp only [List.nil_append]
      rw [o1, Option.bind_some, hFits, Option.bind_some]
      simp only
      rw [show m_gleekeep2_errs [0, 0] = some 0 by kernel_rfl, Option.bind_some, show ((0 : Int) == 0) = true from rfl, ifB_true, Contains_mem o2, Option.bind_some, ifB_true, ifB_true, ready_true]
      rfl
  · rw [show (k != 0) = true by simpa using hk, ifB_true, f1, Option.bind_some, show (k != 0) = true by simpa using hk, ifB_true, ready_true]
    rfl
end Go.G
