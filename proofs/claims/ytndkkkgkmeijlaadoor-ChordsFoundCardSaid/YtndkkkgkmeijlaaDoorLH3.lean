/- LH3: Of is ChordsOf. In plain Lean, no program in sight. -/
import Derived.Test.YtndkkkgkmeijlaaDoorLH2
namespace Go.G
open Go Go.J
noncomputable def TT (r k : Nat) : List Int := (m_chord_tones ⟨r, k, 0⟩).getD []
noncomputable def IX (r k : Nat) (v : Int) : Int := (m_slices_Index_int_int (TT r k) v).getD 0
noncomputable def GP (a : List Int) (v : Int) (r k : Nat) : List TChord := if S (TT r k) = a then [⟨r, k, IX r k v⟩] else []
theorem GP_len (a : List Int) (v : Int) (r k : Nat) : (GP a v r k).length ≤ 4 := by unfold GP; split <;> simp
def AC (r k : Nat) : List TChord := (List.range (klen k)).map fun t : Nat => ⟨r, k, (t : Int)⟩
theorem flatMap_cg {α β : Type} {f g : α → List β} : ∀ {l : List α}, (∀ x, x ∈ l → f x = g x) → l.flatMap f = l.flatMap g
  | [], _ => rfl
  | a :: l, h => by rw [List.flatMap_cons, List.flatMap_cons, h a (List.mem_cons_self ..), flatMap_cg fun x hx => h x (List.mem_cons_of_mem _ hx)]
theorem AC_len {r k : Nat} (hk : 1 ≤ k ∧ k ≤ 7) : (AC r k).length ≤ 4 := by
  unfold AC
  rw [List.length_map, List.length_range]
  exact klen_le hk
theorem flat7_len {β : Type} (G : Nat → List β) (h : ∀ k, 1 ≤ k → k ≤ 7 → (G k).length ≤ 4) : ((List.range 7).flatMap fun j => G (1 + j)).length ≤ 28 := by
  have e : List.range 7 = [0, 1, 2, 3, 4, 5, 6] := rfl
  rw [e]
  simp only [List.flatMap_cons, List.flatMap_nil, List.length_append, List.length_nil]
  have := h (1 + 0) (by omega) (by omega)
  have := h (1 + 1) (by omega) (by omega)
  have := h (1 + 2) (by omega) (by omega)
  have := h (1 + 3) (by omega) (by omega)
  have := h (1 + 4) (by omega) (by omega)
  have := h (1 + 5) (by omega) (by omega)
  have := h (1 + 6) (by omega) (by omega)
  omega
theorem Of_loop (a : List Int) (m : Int) : rangeM (m_chord_Of_l1 a m) 0 (List.range 12) [] = some (.brk ((List.range 12).flatMap fun r => (List.range 7).flatMap fun j => GP a (m.tmod 12) r (1 + j))) := by
  have h := rangeM_app (m_chord_Of_l1 a m) (fun r => (List.range 7).flatMap fun j => GP a (m.tmod 12) r (1 + j)) 0 28 (List.range 12) [] (by simp) (fun r _ => flat7_len _ fun k _ _ => GP_len _ _ _ _) (by
    intro i x s hx hs
    have hi : i < 12 := by have := (List.getElem?_eq_some_iff.1 hx).1; simpa using this
    unfold m_chord_Of_l1
    rw [loop_to8 (m_chord_Of_l2 a m i) (fun k => GP a (m.tmod 12) i k) (0 + i * 28) 4 (fun k _ _ => GP_len _ _ _ _) (by
      intro k s h1 h7 hs
      obtain ⟨T, hT, hlen, -⟩ := chord_facts hi ⟨h1, h7⟩
      have hk4 := klen_le (k := k) ⟨h1, h7⟩
      unfold m_chord_Of_l2
      simp only
      rw [decide_eq_true (show (k : Int) ≤ 7 by omega), ifB_true, hT, Option.bind_some, set_spec T (by omega), Option.bind_some, EqualInt_spec, Option.bind_some, w64_id (by omega)]
      have hTT : TT i k = T := by unfold TT; rw [hT]; rfl
      by_cases he : S T = a
      · obtain ⟨ix, hix⟩ := Index_total T (m.tmod 12)
        have hIX : IX i k (m.tmod 12) = ix := by unfold IX; rw [hTT, hix]; rfl
        rw [decide_eq_true he, ifB_true, hix, Option.bind_some, appM_of (by simp; omega) (by omega), Option.bind_some]
        unfold GP
        rw [hTT, if_pos he, hIX]; rfl
      · rw [decide_eq_false he, ifB_false]
        unfold GP
        rw [hTT, if_neg he, List.append_nil]; rfl) (fun s => by
      unfold m_chord_Of_l2
      simp only
      rw [decide_eq_false (by omega), ifB_false]) s (by omega), Option.bind_some, fin_brk])
  rw [List.length_range, List.nil_append] at h
  exact h
theorem allChords_spec : m_gleeref2_allChords = some ((List.range 12).flatMap fun r => (List.range 7).flatMap fun j => AC r (1 + j)) := by
  unfold m_gleeref2_allChords
  rw [show rangeI 12 = some (List.range 12) from rfl, Option.bind_some]
  have h := rangeM_app m_gleeref2_allChords_l1 (fun r => (List.range 7).flatMap fun j => AC r (1 + j)) 0 28 (List.range 12) [] (by simp) (fun r _ => flat7_len _ fun k h1 h7 => AC_len ⟨h1, h7⟩) (by
    intro i x s hx hs
    unfold m_gleeref2_allChords_l1
    have hi : i < 12 := by have := (List.getElem?_eq_some_iff.1 hx).1; simpa using this
    rw [loop_to8 (m_gleeref2_allChords_l2 i) (fun k => AC i k) (0 + i * 28) 4 (fun k h1 h7 => AC_len ⟨h1, h7⟩) (by
      intro k s h1 h7 hs
      obtain ⟨l, hl, hlen⟩ := kindTones_len (k := k) ⟨h1, h7⟩
      unfold m_gleeref2_allChords_l2
      simp only
      rw [decide_eq_true (show (k : Int) ≤ 7 by omega), ifB_true, hl, Option.bind_some, w64_id (by omega)]
      rw [rangeM_app (m_gleeref2_allChords_l3 i ((k : Int), s)) (fun t : Nat => [⟨i, k, (t : Int)⟩]) (0 + i * 28 + k * 4) 1 l s hs (fun _ _ => by simp) (by
        intro t x u hx hu
        have ht := (List.getElem?_eq_some_iff.1 hx).1
        have hk4 := klen_le (k := k) ⟨h1, h7⟩
        unfold m_gleeref2_allChords_l3
        rw [appM_of (by simp; omega) (by omega)]; rfl), Option.bind_some, fin_brk, hlen, ← List.map_eq_flatMap]
      rfl) (fun s => by
      unfold m_gleeref2_allChords_l2
      simp only
      rw [decide_eq_false (by omega), ifB_false]) s (by omega), Option.bind_some, fin_brk])
  rw [List.length_range, List.nil_append] at h
  rw [h, Option.bind_some, fin_brk]
theorem AC_right {c : TChord} (h : c ∈ (List.range 12).flatMap fun r => (List.range 7).flatMap fun j => AC r (1 + j)) : ∃ r k t, Right c r k t := by
  obtain ⟨r, h1, h2⟩ := List.mem_flatMap.1 h
  obtain ⟨j, h3, h4⟩ := List.mem_flatMap.1 h2
  obtain ⟨t, h5, rfl⟩ := List.mem_map.1 h4
  exact ⟨r, 1 + j, t, rfl, List.mem_range.1 h1, ⟨by omega, by have := List.mem_range.1 h3; omega⟩, List.mem_range.1 h5⟩
noncomputable def TO (c : TChord) : List Int := (m_gleeref2_TonesOf c).getD []
noncomputable def dC (a : List Int) (v : Int) (c : TChord) : Bool := !(decide (S (TO c) = a) && decide ((TO c)[0]? = some v))
theorem ChordsOf_spec (n : List Int) (h0 : n ≠ []) (hl : n.length ≤ 12) {m : Int} (hm : m_slices_Min_int_int n = some m) : m_gleeref2_ChordsOf n = some (((List.range 12).flatMap fun r => (List.range 7).flatMap fun j => AC r (1 + j)).filter fun c => !dC (S n) (m.tmod 12) c) := by
  unfold m_gleeref2_ChordsOf
  rw [allChords_spec, Option.bind_some]
  have hdel : ∀ u, m_slices_DeleteFunc_api_Chord_api_Chord__gleeref2_ChordsOf_1 u n = dfM (TChord.mk 0 0 0) (fun c => m_gleeref2_ChordsOf_1 c n) u := fun _ => rfl
  rw [hdel, dfM_spec _ _ (dC (S n) (m.tmod 12)) _ (by
    have e : ((List.range 12).flatMap fun r => (List.range 7).flatMap fun j => AC r (1 + j)).length ≤ 1000000000 := by
      rw [List.length_flatMap]
      have h1 : ((List.range 12).map fun r => ((List.range 7).flatMap fun j => AC r (1 + j)).length).sum ≤ 12 * 28 := by
        have h2 : ∀ (l : List Nat), (l.map fun r => ((List.range 7).flatMap fun j => AC r (1 + j)).length).sum ≤ l.length * 28 := by
          intro l
          induction l with
          | nil => simp
          | cons a l ih =>
            have := flat7_len (fun k => AC a k) fun k h1 h7 => AC_len ⟨h1, h7⟩
            rw [List.map_cons, List.sum_cons, List.length_cons, Nat.add_mul]
            omega
        exact h2 (List.range 12)
      omega
    exact e) (fun c hc => by
      obtain ⟨r, k, t, rfl, hr, hk, ht⟩ := AC_right hc
      obtain ⟨T, -, hlen, -, hT, -⟩ := chord_facts hr hk
      obtain ⟨T', hT', hp, h00⟩ := hT t ht
      have hTO : TO ⟨r, k, t⟩ = T' := by unfold TO; rw [hT']; rfl
      have hk4 := klen_le hk
      have hTl := hp.length_eq
      unfold m_gleeref2_ChordsOf_1 dC
      rw [hTO, hT', Option.bind_some, classes_spec T' (by omega), Option.bind_some, classes_spec n (by omega), Option.bind_some, EqualInt_spec, Option.bind_some]
      by_cases he : S T' = S n
      · have hpos : 0 < T'.length := by omega
        have hg : T'[0]? = some T'[0] := List.getElem?_eq_getElem hpos
        rw [decide_eq_true he, Bool.not_true, ifB_false, getI_of (i := 0) (n := 0) rfl hg, Option.bind_some, hm, Option.bind_some, Option.bind_some, fin_inl, hg]
        by_cases h1 : T'[0] = m.tmod 12
        · rw [h1]; simp
        · rw [show (T'[0] != m.tmod 12) = true by simpa using h1, decide_eq_false (fun h => h1 (Option.some.inj h))]; rfl
      · rw [decide_eq_false he]; rfl), Option.bind_some]
theorem Of_spec {n : List Int} {e : Int} (he : m_gleeref2_NotesFault n 12 = some e) : ∃ w, m_chord_Of n = some (if e = 0 then w else [], e) ∧ (e = 0 → m_gleeref2_ChordsOf n = some w) := by
  unfold m_chord_Of
  rw [notesFault_eq, he, Option.bind_some]
  by_cases h0 : e = 0
  · subst h0
    rw [NotesFault_eq] at he
    have hn : n ≠ [] := fun h => by subst h; cases he
    have hl : n.length ≤ 12 := by
      apply Nat.le_of_not_lt
      intro h
      rw [if_neg (by omega), if_pos (by omega)] at he
      cases he
    obtain ⟨m, hm, hmem⟩ := Min_spec n hn (by omega)
    refine ⟨(List.range 12).flatMap fun r => (List.range 7).flatMap fun j => GP (S n) (m.tmod 12) r (1 + j), ?_, fun _ => ?_⟩
    · rw [show ((0 : Int) != 0) = false from rfl, ifB_false, set_spec n (by omega), Option.bind_some, hm, Option.bind_some, show rangeI 12 = some (List.range 12) from rfl, Option.bind_some, Of_loop, Option.bind_some, fin_brk, if_pos rfl]
    · rw [ChordsOf_spec n hn hl hm]
      congr 1
      rw [List.filter_flatMap]
      refine flatMap_cg fun r hr => ?_
      rw [List.filter_flatMap]
      refine flatMap_cg fun j hj => ?_
      have hr := List.mem_range.1 hr
      have hj := List.mem_range.1 hj
      have hk : 1 ≤ 1 + j ∧ 1 + j ≤ 7 := by omega
      generalize 1 + j = k at hk
      obtain ⟨T, hT, hlen, hrng, hTO, hix⟩ := chord_facts hr hk
      have hTT : TT r k = T := by unfold TT; rw [hT]; rfl
      unfold AC GP
      rw [hTT, List.filter_map]
      by_cases hS : S T = S n
      · rw [if_pos hS]
        have hv : m.tmod 12 ∈ T := by
          have h1 := mem_S hmem
          rw [← hS] at h1
          obtain ⟨x, hx, hx2⟩ := of_mem_S h1
          have h2 := hrng x hx
          rw [Int.tmod_eq_of_lt h2.1 (by omega)] at hx2
          exact hx2 ▸ hx
        obtain ⟨i, hi1, hi2⟩ := hix _ hv
        have hIX : IX r k (m.tmod 12) = i := by unfold IX; rw [hTT, hi1]; rfl
        have hfl : (List.range (klen k)).filter ((fun c => !dC (S n) (m.tmod 12) c) ∘ fun t : Nat => (⟨r, k, t⟩ : TChord)) = (List.range (klen k)).filter fun t => decide (T[t]? = some (m.tmod 12)) := by
          refine List.filter_congr fun t ht => ?_
          obtain ⟨T', h1, h2, h3⟩ := hTO t (List.mem_range.1 ht)
          have hto : TO ⟨r, k, t⟩ = T' := by unfold TO; rw [h1]; rfl
          simp only [Function.comp_apply, dC, hto, Bool.not_not]
          rw [S_perm h2, decide_eq_true hS, Bool.true_and, h3]
        rw [hfl, hIX]
        have : (fun t : Nat => (⟨r, k, t⟩ : TChord)) = (fun z : Int => (⟨r, k, z⟩ : TChord)) ∘ fun t : Nat => (t : Int) := rfl
        rw [this, ← List.map_map, hi2]; rfl
      · rw [if_neg hS]
        have hfl : (List.range (klen k)).filter ((fun c => !dC (S n) (m.tmod 12) c) ∘ fun t : Nat => (⟨r, k, t⟩ : TChord)) = [] := by
          refine List.filter_eq_nil_iff.2 fun t ht => ?_
          obtain ⟨T', h1, h2, h3⟩ := hTO t (List.mem_range.1 ht)
          have hto : TO ⟨r, k, t⟩ = T' := by unfold TO; rw [h1]; rfl
          simp only [Function.comp_apply, dC, hto, Bool.not_not]
          rw [S_perm h2, decide_eq_false hS]
          simp
        rw [hfl]; rfl
  · have : (e != 0) = true := by simpa using h0
    rw [this, ifB_true]
    exact ⟨[], by rw [if_neg h0], fun h => absurd h h0⟩
end Go.G
