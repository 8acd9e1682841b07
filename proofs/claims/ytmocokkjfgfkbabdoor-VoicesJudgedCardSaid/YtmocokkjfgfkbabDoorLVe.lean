/- LVe: VoicesJudged, the row. In plain Lean, no program in sight. -/
import Derived.Test.YtmocokkjfgfkbabDoorLVd
namespace Go.G
open Go Go.J
set_option linter.unusedSimpArgs false
set_option linter.unusedVariables false
theorem FaultsAny (v : List (List Int)) (leap : Int) : ∃ f e, m_chord_Faults v leap = some (f, e) ∧ m_gleeref2_VoicesFault v leap = some e ∧ (e = 0 → m_gleeref2_FaultsOf v leap = some f) ∧ (e ≠ 0 → f = []) := by
  rw [VoicesFault_spec]
  by_cases hv : vfault v = 0
  · have hR := vfault_zero hv
    by_cases hl : 0 ≤ leap ∧ leap ≤ 24
    · rw [if_pos hv, if_pos hl]
      exact ⟨_, _, Faults_spec hR leap hl, rfl, fun _ => FaultsOf_spec hR leap hl, fun h => absurd rfl h⟩
    · rw [if_pos hv, if_neg hl]
      refine ⟨[], 1, ?_, rfl, fun h => absurd h (by omega), fun _ => rfl⟩
      unfold m_chord_Faults
      rw [voicesFault_spec, hv, Option.bind_some, show ((0 : Int) != 0) = false from rfl, ifB_false, Outside_spec, Option.bind_some, decide_eq_false hl]
      rfl
  · rw [if_neg hv]
    refine ⟨[], vfault v, ?_, rfl, fun h => absurd h hv, fun _ => rfl⟩
    unfold m_chord_Faults
    rw [voicesFault_spec, Option.bind_some, show (vfault v != 0) = true by simpa using hv, ifB_true]
/-- THE LAW: at every seed the answer is true. -/
theorem VoicesJudged_true (L : List Int) : m_gleelaw2_VoicesJudged L = some true := by
  unfold m_gleelaw2_VoicesJudged
  obtain ⟨v, q1, h1, h2, h3, -⟩ := Voices_spec L (p := 0) (by omega) (by omega)
  obtain ⟨leap, h4, -⟩ := Pick_spec L (p := q1) [2, 4, 5, 7, 12, 24, 0, (-1), 25] (by omega) (by omega) (by simp) (by simp)
  obtain ⟨c, q2, h5, h6, h7⟩ := AChord_spec L (q := q1 + 1) (by omega) (by omega)
  obtain ⟨n, q3, h8, h9, h10, hnl⟩ := Notes_specL L (q := q2) (by omega) (by omega)
  obtain ⟨b, hb⟩ := Flip_spec L (p := q3) (n := 2) (by omega) (by omega) (by omega)
  obtain ⟨w, hw⟩ := ChordsOf_total n (by omega)
  obtain ⟨en, hen⟩ : ∃ e, m_gleeref2_NotesFault n 5 = some e := ⟨_, NotesFault_eq n 5⟩
  obtain ⟨f, e, g1, g2, g3, g4⟩ := FaultsAny v leap
  rw [h1, Option.bind_some]
  simp only
  unfold m_gleemake_Stream_Leap
  rw [h4]
  simp only [Option.bind_some]
  rw [h5, Option.bind_some]
  simp only
  rw [h8, Option.bind_some]
  simp only
  rw [hb, Option.bind_some]
  simp only
  rw [hw, hen, g1, g2]
  simp only [Option.bind_some]
  obtain ⟨d, hd⟩ : ∃ d : TChord, (ifB b ((ifB (en == 0) (some (.inl (decide ((w.length : Int) > 0)))) (some (.inl false)) : Option (Bool ⊕ ((Int × Int × Int) ⊕ Bool))).bind fun k18 => Sum.fin k18 fun u16 => ifB u16 ((getI w 0).bind fun e20 => some (.inl (e20.Root, e20.Kind, e20.Turn))) (some (.inl (c.Root, c.Kind, c.Turn)))) (some (.inl (c.Root, c.Kind, c.Turn))) : Option ((Int × Int × Int) ⊕ Bool)) = some (.inl (d.Root, d.Kind, d.Turn)) := by
    cases b with
    | false => exact ⟨c, rfl⟩
    | true =>
      rw [ifB_true]
      cases w with
      | nil => exact ⟨c, by cases (en == 0) <;> rfl⟩
      | cons x w =>
        cases hz : (en == 0) with
        | false => exact ⟨c, rfl⟩
        | true =>
          refine ⟨x, ?_⟩
          rw [ifB_true, Option.bind_some, fin_inl, decide_eq_true (by rw [List.length_cons]; omega), ifB_true]
          rfl
  rw [hd, Option.bind_some, fin_inl]
  simp only
  obtain ⟨ec, hec, hr⟩ := ChordFault_total d
  obtain ⟨ft, k1, k2, k3⟩ := Fits_spec hec hr hen
  have hec : m_gleeref2_ChordFault (TChord.mk d.Root d.Kind d.Turn) = some ec := hec
  have k1 : m_chord_Fits (TChord.mk d.Root d.Kind d.Turn) n = some (ft, if ec = 0 then en else ec) := k1
  rw [k1, Option.bind_some, hec, Option.bind_some, errs2, Option.bind_some]
  simp only
  have hE : (ifB (e == 0) ((m_gleeref2_FaultsOf v leap).bind fun y33 => some (.inl y33)) (some (.inl [])) : Option ((List TFault) ⊕ Bool)) = some (.inl f) := by
    by_cases h : e = 0
    · rw [show (e == 0) = true by simpa using h, ifB_true, g3 h]; rfl
    · rw [show (e == 0) = false by simpa using h, ifB_false, g4 h]
  rw [hE, Option.bind_some, fin_inl, show (e == e) = true by simp, ifB_true, EqualFt_refl, Option.bind_some, ifB_true, show ((if ec = 0 then en else ec) == if ec = 0 then en else ec) = true by simp, ifB_true, sounded_true]
  by_cases h : (if ec = 0 then en else ec) = 0
  · have k2 : m_gleeref2_FitsOf (TChord.mk d.Root d.Kind d.Turn) n = some ft := k2 h
    rw [show ((if ec = 0 then en else ec) == 0) = true by simpa using h, ifB_true, k2, Option.bind_some, show (ft == ft) = true by simp]; rfl
  · rw [show ((if ec = 0 then en else ec) == 0) = false by simpa using h, ifB_false, k3 h]; rfl
end Go.G
