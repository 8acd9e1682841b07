/- LF1: the fullest choice within a time: the program's search is the reference's. In plain Lean, no program in sight. -/
import Derived.Test.YtpllnghmnihjhaaDoorLS1
import Derived.Test.YtpllnghmnihjhaaDoorLC4
namespace Go.G
open Go Go.J
theorem Compare_total (a b : List Int) : ∃ c, m_slices_Compare_int_int a b = some c := by
  unfold m_slices_Compare_int_int
  obtain ⟨f, h, hq⟩ := rangeM_post (m_slices_Compare_int_int_l1 b) a (fun _ _ => True) (fun f => match f with | .nxt _ => False | _ => True) (by
    intro i x s hx _
    unfold m_slices_Compare_int_int_l1
    by_cases h0 : (i : Int) ≥ (b.length : Int)
    · rw [decide_eq_true h0, ifB_true]
      exact ⟨_, rfl, by simp, by simp, by simp⟩
    · rw [decide_eq_false h0, ifB_false, getI_nat, List.getElem?_eq_getElem (by omega), Option.bind_some]
      unfold m_cmp_Compare_int m_cmp_isNaN_int
      have e1 : ∀ z : Int, (z != z) = false := by simp
      rw [Option.bind_some, Option.bind_some, e1, e1, ifB_false, ifB_false]
      by_cases h1 : x < b[i]
      · rw [decide_eq_true h1]
        exact ⟨_, rfl, by simp, by simp, by simp⟩
      · by_cases h2 : x > b[i]
        · rw [decide_eq_false h1, decide_eq_true h2]
          exact ⟨_, rfl, by simp, by simp, by simp⟩
        · rw [decide_eq_false h1, decide_eq_false h2]
          exact ⟨_, rfl, by simp, by simp, by simp⟩) (fun _ _ => trivial) () trivial
  rw [h, Option.bind_some]
  cases f with
  | nxt s => exact hq.elim
  | brk s =>
    rw [fin_brk]
    cases decide ((a.length : Int) < (b.length : Int)) with
    | true => exact ⟨_, rfl⟩
    | false => exact ⟨_, rfl⟩
  | ret v => exact ⟨v, rfl⟩
/-- what is chosen in one round -/
theorem choose_spec (items : List TItem) (hl : items.length ≤ 16) (i : Nat) :
    ∃ its idx, rangeM (m_concert_Fitting_l2 i) 0 items ([], []) = some (.brk (its, idx)) ∧ rangeM (m_gleeref2_FittingIn_l2 i) 0 items ([], []) = some (.brk (idx, its)) ∧ its.length = idx.length ∧ idx.length ≤ items.length ∧ (∀ x ∈ its, x ∈ items) ∧ ∀ j ∈ idx, 0 ≤ j ∧ j < items.length := by
  obtain ⟨s, t, h1, h2, h3, h4, h5, h6, h7⟩ := rangeM_rel2 (m_concert_Fitting_l2 i) (m_gleeref2_FittingIn_l2 i) items
    (fun n s t => t = (s.2, s.1) ∧ s.1.length = s.2.length ∧ s.2.length ≤ n ∧ (∀ x ∈ s.1, x ∈ items) ∧ ∀ j ∈ s.2, 0 ≤ j ∧ j < (items.length : Int)) (by
    rintro k x ⟨its, idx⟩ t hx ⟨rfl, g1, g2, g3, g4⟩
    have hk := (List.getElem?_eq_some_iff.1 hx).1
    simp only at g1 g2 g3 g4
    unfold m_concert_Fitting_l2 m_gleeref2_FittingIn_l2 shrM
    rw [if_neg (by omega), Option.bind_some, Option.bind_some]
    cases hb : ((andI ((i : Int).fdiv (2 ^ (min ((k : Int)).toNat 64))) 1) == 1) with
    | false => exact ⟨_, _, rfl, rfl, rfl, g1, by simp only; omega, g3, g4⟩
    | true =>
      rw [ifB_true, ifB_true, appM_of (by simp; omega) (by omega), appM_of (by simp; omega) (by omega)]
      refine ⟨_, _, rfl, rfl, rfl, by simp [g1], by simp; omega, ?_, ?_⟩
      · intro y hy
        rcases List.mem_append.1 hy with h | h
        · exact g3 y h
        · simp at h; subst h; exact List.mem_of_getElem? hx
      · intro j hj
        rcases List.mem_append.1 hj with h | h
        · exact g4 j h
        · simp at h; subst h; omega) ([], []) ([], []) ⟨rfl, rfl, by simp, by simp, by simp⟩
  obtain ⟨its, idx⟩ := s
  subst h3
  exact ⟨its, idx, h1, h2, h4, h5, h6, h7⟩
theorem sub_ok {p : TProgram} (h : ProgOK p) {its : List TItem} (hl : its.length ≤ 60) (hi : ∀ x ∈ its, x ∈ p.Items) : ProgOK (TProgram.mk its p.Change p.Clap p.Break (-1)) := by
  constructor
  · exact hl
  · intro i x hx
    obtain ⟨k, hk, rfl⟩ := List.getElem_of_mem (hi x (List.mem_of_getElem? hx))
    exact h.item k _ (List.getElem?_eq_getElem hk)
  all_goals first | exact h.ch1 | exact h.ch2 | exact h.cl1 | exact h.cl2 | exact h.br1 | exact h.br2 | exact Int.le_refl _ | exact .inl rfl
theorem Fitting_spec {p : TProgram} {e : Int} (he : m_gleeref2_ProgramFault p = some e) (hok : e = 0 → ProgOK p) (hlen : p.Items.length ≤ 5) (t : Int) :
    ∃ r, m_concert_Fitting p t = some (if e = 0 ∧ 0 ≤ t ∧ t ≤ 5184000000 then r else [], if e = 0 then (if 0 ≤ t ∧ t ≤ 5184000000 then 0 else 1) else e) ∧ (e = 0 → 0 ≤ t → t ≤ 5184000000 → m_gleeref2_FittingIn p t = some r ∧ (r.length ≤ 5)) := by
  unfold m_concert_Fitting
  rw [CheckProgram_eq, he, Option.bind_some]
  by_cases h0 : e = 0
  · subst h0
    have hp := hok rfl
    rw [show ((0 : Int) != 0) = false from rfl, ifB_false, decide_eq_false (by omega), ifB_false, Outside_spec, Option.bind_some]
    by_cases h1 : 0 ≤ t ∧ t ≤ 5184000000
    · rw [decide_eq_true h1, Bool.not_true, ifB_false]
      unfold m_gleeref2_FittingIn
      obtain ⟨z, hz⟩ : ∃ z, shlM 1 (p.Items.length : Int) = some (w64 z) := ⟨_, by unfold shlM; rw [if_neg (by omega)]⟩
      have hr := w64_rng z
      have hL : rangeI (w64 z) = some (List.range (w64 z).toNat) := by unfold rangeI; rw [if_pos hr.2]
      rw [hz, Option.bind_some, hL, Option.bind_some, Option.bind_some, hL, Option.bind_some]
      obtain ⟨s, s', h2, h3, h4, h5, h6⟩ := rangeM_rel2 (m_concert_Fitting_l1 p t) (m_gleeref2_FittingIn_l1 p t) (List.range (w64 z).toNat)
        (fun _ s s' => s' = ((s.2.length : Int), s.1, s.2) ∧ s.2.length ≤ 5 ∧ ∀ j ∈ s.2, 0 ≤ j ∧ j < (p.Items.length : Int)) (by
        rintro i x ⟨lg, best⟩ s' hx ⟨rfl, g1, g2⟩
        unfold m_concert_Fitting_l1 m_gleeref2_FittingIn_l1
        obtain ⟨its, idx, c1, c2, c3, c4, c5, c6⟩ := choose_spec p.Items (by omega) i
        have hsub := sub_ok hp (its := its) (by omega) c5
        simp only at g1 g2 ⊢
        rw [c1, c2, Option.bind_some, Option.bind_some, fin_brk, fin_brk]
        simp only
        unfold m_concert_longOf
        rw [begins_spec hsub, LongOf_spec hsub, Option.bind_some, Option.bind_some, Option.bind_some]
        simp only
        generalize bg (TProgram.mk its p.Change p.Clap p.Break (-1)) its.length = y
        obtain ⟨c, hc⟩ := Compare_total idx best
        rw [w64_id (n := (idx.length : Int) - (best.length : Int)) (by omega), hc]
        have e1 : decide ((idx.length : Int) - (best.length : Int) > 0) = decide ((idx.length : Int) > (best.length : Int)) := by rw [decide_eq_decide]; omega
        have e2 : ((idx.length : Int) - (best.length : Int) == 0) = ((idx.length : Int) == (best.length : Int)) := by
          by_cases hh : (idx.length : Int) = best.length
          · simp [hh]
          · have a1 : ((idx.length : Int) - (best.length : Int) == 0) = false := by simp; omega
            have a2 : ((idx.length : Int) == (best.length : Int)) = false := by simp; omega
            rw [a1, a2]
        rw [e1, e2]
        simp only [Option.bind_some]
        cases decide (y ≤ t) with
        | false => exact ⟨_, _, rfl, rfl, rfl, g1, g2⟩
        | true =>
          cases decide ((idx.length : Int) > (best.length : Int)) with
          | true => exact ⟨_, _, rfl, rfl, rfl, by simp only; omega, c6⟩
          | false =>
            cases ((idx.length : Int) == (best.length : Int)) with
            | false => exact ⟨_, _, rfl, rfl, rfl, g1, g2⟩
            | true =>
              cases decide (y > lg) with
              | true => exact ⟨_, _, rfl, rfl, rfl, by simp only; omega, c6⟩
              | false =>
                cases (y == lg) with
                | false => exact ⟨_, _, rfl, rfl, rfl, g1, g2⟩
                | true =>
                  cases decide (c < 0) with
                  | true => exact ⟨_, _, rfl, rfl, rfl, by simp only; omega, c6⟩
                  | false => exact ⟨_, _, rfl, rfl, rfl, g1, g2⟩) (0, []) (0, 0, []) ⟨rfl, by simp, by simp⟩
      obtain ⟨lg, best⟩ := s
      subst h4
      simp only at h5 h6
      obtain ⟨r, r', h7, h8, h9, h10⟩ := rangeM_rel2 (m_concert_Fitting_l3 p) (m_gleeref2_FittingIn_l3 p) best (fun n s s' => s' = s ∧ s.length = n) (by
        rintro i x s s' hx ⟨rfl, g1⟩
        have hi := (List.getElem?_eq_some_iff.1 hx).1
        obtain ⟨g2, g3⟩ := h6 x (List.mem_of_getElem? hx)
        unfold m_concert_Fitting_l3 m_gleeref2_FittingIn_l3
        rw [getI_of (n := x.toNat) (by omega) (List.getElem?_eq_getElem (by omega)), Option.bind_some, Option.bind_some, appM_of (by simp; omega) (by omega)]
        exact ⟨_, _, rfl, rfl, rfl, by simp [g1]⟩) [] [] ⟨rfl, rfl⟩
      subst h9
      refine ⟨r', ?_, fun _ _ _ => ⟨?_, by omega⟩⟩
      · rw [h2, Option.bind_some, fin_brk, h7, Option.bind_some, fin_brk, if_pos ⟨rfl, h1⟩, if_pos rfl, if_pos h1]
      · rw [h3, Option.bind_some, fin_brk, h8, Option.bind_some, fin_brk]
    · rw [decide_eq_false h1, Bool.not_false, ifB_true]
      exact ⟨[], by simp [h1], fun _ a b => absurd ⟨a, b⟩ h1⟩
  · have : (e != 0) = true := by simpa using h0
    rw [this, ifB_true]
    exact ⟨[], by simp [h0], fun h => absurd h h0⟩
end Go.G
