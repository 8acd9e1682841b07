/- LW6: ChordsFollow. In plain Lean, no program in sight. -/
import Derived.Test.YtmcooogdeocldaaDoorLW5b
import Derived.Test.YtmcooogdeocldaaDoorLW6a
import Derived.Test.YtmcooogdeocldaaDoorLW4a
namespace Go.G
open Go Go.J
set_option linter.unusedSimpArgs false
set_option linter.unusedVariables false
theorem errs3W (a b c : Int) : m_gleelaw2_errs [a, b, c] = some (if a = 0 then (if b = 0 then c else b) else a) := by
  unfold m_gleelaw2_errs
  rw [rangeM_cons]
  unfold m_gleelaw2_errs_l1
  by_cases h : a = 0
  · rw [if_pos h, show (a != 0) = false by simpa using h, ifB_false, Option.bind_some, run_nxt, rangeM_cons]
    by_cases h2 : b = 0
    · rw [if_pos h2, show (b != 0) = false by simpa using h2, ifB_false, Option.bind_some, run_nxt, rangeM_cons]
      by_cases h3 : c = 0
      · rw [show (c != 0) = false by simpa using h3, h3]; rfl
      · rw [show (c != 0) = true by simpa using h3]; rfl
    · rw [if_neg h2, show (b != 0) = true by simpa using h2]; rfl
  · rw [if_neg h, show (a != 0) = true by simpa using h]; rfl
/-- THE LAW: at every seed the answer is true. -/
theorem ChordsFollow_true (L : List Int) : m_gleelaw2_ChordsFollow L = some true := by
  unfold m_gleelaw2_ChordsFollow
  obtain ⟨f, q1, h1, a1, b1, hfl⟩ := Follows_spec L (p := 0) (by omega) (by omega)
  obtain ⟨x, q2, h2, a2, b2⟩ := AChord_spec L (q := q1) (by omega) (by omega)
  obtain ⟨y, q3, h3, a3, b3⟩ := AChord_spec L (q := q2) (by omega) (by omega)
  obtain ⟨n, h4, a4, b4⟩ := Range_spec L (p := q3) (a := 0) (b := 5) (by omega) (by omega) (by omega) (by omega) (by omega)
  obtain ⟨r, q4, h5, a5, b5⟩ := Chords_spec L (q := q3 + 1) (many := n) (by omega) (by omega) (by omega) (by omega)
  obtain ⟨fl, h6⟩ := Flip_spec L (p := q4) (n := 2) (by omega) (by omega) (by omega)
  rw [h1, Option.bind_some]
  simp only
  rw [h2, Option.bind_some]
  simp only
  rw [h3, Option.bind_some]
  simp only
  rw [h4, Option.bind_some]
  simp only
  rw [h5, Option.bind_some]
  simp only
  rw [h6, Option.bind_some]
  simp only
  obtain ⟨u, hu⟩ : ∃ u : Int × Int × Int × Int × Int × Int, (ifB fl ((m_gleemake_Stream_Range L (q4 + 1) 0 11).bind fun y15 => (m_gleemake_Stream_Pick L y15.2 [1, 2, 5]).bind fun y17 => (m_gleemake_Stream_Range L y17.2 0 11).bind fun y18 => (m_gleemake_Stream_Pick L y18.2 [1, 2, 5]).bind fun y20 => some (.inl (y15.1, y17.1, 0, y18.1, y20.1, 0))) (some (.inl (x.Root, x.Kind, x.Turn, y.Root, y.Kind, y.Turn))) : Option ((Int × Int × Int × Int × Int × Int) ⊕ Bool)) = some (.inl u) := by
    cases fl with
    | false => exact ⟨_, rfl⟩
    | true =>
      obtain ⟨v1, g1, -, -⟩ := Range_spec L (p := q4 + 1) (a := 0) (b := 11) (by omega) (by omega) (by omega) (by omega) (by omega)
      obtain ⟨v2, g2, -⟩ := Pick_spec L (p := q4 + 1 + 1) [1, 2, 5] (by omega) (by omega) (by simp) (by simp)
      obtain ⟨v3, g3, -, -⟩ := Range_spec L (p := q4 + 1 + 1 + 1) (a := 0) (b := 11) (by omega) (by omega) (by omega) (by omega) (by omega)
      obtain ⟨v4, g4, -⟩ := Pick_spec L (p := q4 + 1 + 1 + 1 + 1) [1, 2, 5] (by omega) (by omega) (by simp) (by simp)
      rw [ifB_true, g1, Option.bind_some]
      simp only
      rw [g2, Option.bind_some]
      simp only
      rw [g3, Option.bind_some]
      simp only
      rw [g4]
      exact ⟨_, rfl⟩
  rw [hu, Option.bind_some, fin_inl]
  generalize TChord.mk u.1 u.2.1 u.2.2.1 = a
  generalize TChord.mk u.2.2.2.1 u.2.2.2.2.1 u.2.2.2.2.2 = b
  obtain ⟨e0, k0⟩ := FollowsFault_total f
  obtain ⟨ea, ka, ra⟩ := ChordFault_total a
  obtain ⟨eb, kb, rb⟩ := ChordFault_total b
  obtain ⟨er, kr, rr⟩ := ChordsFault_total r 144
  have k0' : m_chord_CheckFollows f = some e0 := by rw [FollowsFault_eq]; exact k0
  have kc := checkAll2 ka kb
  obtain ⟨ms, s1, s2⟩ := Way_all k0' kc
  rw [May_all k0' kc, Option.bind_some, Broken_all k0' kr, Option.bind_some, s2, Option.bind_some, k0, Option.bind_some, ka, Option.bind_some, kb, Option.bind_some, errs3W, Option.bind_some, kr, Option.bind_some, errs2, Option.bind_some]
  simp only
  have hone : ∀ one : Int, one = (if e0 = 0 then (if ea = 0 then eb else ea) else e0) → one = 0 → plainC b ∈ allW := by
    intro one e1 e2
    rw [e2] at e1
    by_cases h : e0 = 0
    · rw [if_pos h] at e1
      by_cases h' : ea = 0
      · rw [if_pos h'] at e1; exact plain_mem (rb e1.symm)
      · rw [if_neg h'] at e1; exact absurd e1.symm h'
    · rw [if_neg h] at e1; exact absurd e1.symm h
  have htwo : ∀ two : Int, two = (if e0 = 0 then er else e0) → two = 0 → m_gleeref2_BrokenOf f r = some (brkF f r r.length) := by
    intro two e1 e2
    rw [e2] at e1
    by_cases h : e0 = 0
    · rw [if_pos h] at e1
      rw [← e1] at kr
      have := ChordsFault_len kr
      exact BrokenOf_spec f r (by omega)
    · rw [if_neg h] at e1; exact absurd e1.symm h
  generalize hO : (if e0 = 0 then (if ea = 0 then eb else ea) else e0) = one at s1
  generalize hT : (if e0 = 0 then er else e0) = two
  have fin1 : (ifB (one == 0) ((m_gleeref2_MayFollow f a b).bind fun y38 => (m_gleeref2_WayOf f a b).bind fun y39 => some (.inl (y38, y39.2, y39.1))) (some (.inl (false, false, []))) : Option ((Bool × Bool × (List TChord)) ⊕ Bool)) = some (.inl (if one = 0 then mayB f a b else false, if one = 0 then (wayR f ms a).2 else false, if one = 0 then (wayR f ms a).1 else [])) := by
    by_cases h : one = 0
    · rw [show (one == 0) = true by simpa using h, ifB_true, MayFollow_spec, Option.bind_some, WayOf_exact f a b (hone one hO.symm h) (s1 h), Option.bind_some, if_pos h, if_pos h, if_pos h]
    · rw [show (one == 0) = false by simpa using h, ifB_false, if_neg h, if_neg h, if_neg h]
  have fin2 : (ifB (two == 0) ((m_gleeref2_BrokenOf f r).bind fun y46 => some (.inl y46)) (some (.inl [])) : Option ((List Int) ⊕ Bool)) = some (.inl (if two = 0 then brkF f r r.length else [])) := by
    by_cases h : two = 0
    · rw [show (two == 0) = true by simpa using h, ifB_true, htwo two hT.symm h, Option.bind_some, if_pos h]
    · rw [show (two == 0) = false by simpa using h, ifB_false, if_neg h]
  rw [fin1, Option.bind_some, fin_inl, fin2, Option.bind_some, fin_inl, k0', Option.bind_some]
  simp only [beq_self_eq_true, ifB_true, EqualInt_spec, Option.bind_some, decide_true, EqualChord, sounded_true]
end Go.G
