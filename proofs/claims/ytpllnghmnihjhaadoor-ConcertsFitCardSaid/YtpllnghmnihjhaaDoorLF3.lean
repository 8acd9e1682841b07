/- LF3: the law of the fitting choices, in plain Lean. No program in sight. -/
import Derived.Test.YtpllnghmnihjhaaDoorLF2
namespace Go.G
open Go Go.J
theorem EqualStr (l : List ByteArray) : m_slices_Equal_string_string l l = some true := by
  unfold m_slices_Equal_string_string
  rw [show ((l.length : Int) != (l.length : Int)) = false by simp, ifB_false]
  obtain ⟨s, h, -⟩ := rangeM_invx (m_slices_Equal_string_string_l1 l) l (fun _ _ => True) (fun i x s hx _ => by
    unfold m_slices_Equal_string_string_l1
    rw [getI_nat, hx, Option.bind_some, show (x.toList == x.toList) = true by simp, Bool.not_true, ifB_false]
    exact ⟨_, rfl, trivial⟩) () trivial
  rw [h]; rfl
theorem when_eq (b : Bool) (x : Int) : m_gleelaw2_when b x = some (if b = true then x else 0) := by cases b <;> rfl
theorem errs_cons (x : Int) (l : List Int) : m_gleelaw2_errs (x :: l) = if x = 0 then m_gleelaw2_errs l else some x := by
  have key : ∀ (l : List Int) (i j : Nat), rangeM m_gleelaw2_errs_l1 i l () = rangeM m_gleelaw2_errs_l1 j l () := by
    intro l
    induction l with
    | nil => intro i j; rfl
    | cons y l ih => intro i j; rw [rangeM_cons, rangeM_cons]; unfold m_gleelaw2_errs_l1; cases (y != 0) with
      | true => rfl
      | false => exact ih _ _
  unfold m_gleelaw2_errs
  rw [rangeM_cons]
  by_cases h : x = 0
  · subst h; rw [if_pos rfl, key l 0 (0 + 1)]; rfl
  · rw [if_neg h]
    unfold m_gleelaw2_errs_l1
    rw [show (x != 0) = true by simpa using h]; rfl
theorem errs_nil : m_gleelaw2_errs [] = some 0 := rfl
theorem errs2 (a b : Int) : m_gleelaw2_errs [a, b] = some (if a = 0 then b else a) := by
  rw [errs_cons, errs_cons, errs_nil]
  split
  · split
    · rename_i h; rw [h]
    · rfl
  · rfl
theorem errs3 (a b c : Int) : m_gleelaw2_errs [a, b, c] = some (if a = 0 then (if b = 0 then c else b) else a) := by
  rw [errs_cons, errs2]; split <;> rfl
/-- THE LAW: at every seed the answer is true. -/
theorem ConcertsFit_true (L : List Int) : m_gleelaw2_ConcertsFit L = some true := by
  unfold m_gleelaw2_ConcertsFit
  obtain ⟨p, q, h1, h2, h3, h4⟩ := AProgram_spec L (q := 0) (most := 5) (by omega) (by omega) (by omega) (by omega)
  obtain ⟨t, h5, -⟩ := Pick_spec L (p := q) [0, 99, 150, 260, 400, 1000, (-1), 5184000001] (by omega) (by omega) (by simp) (by simp)
  obtain ⟨u, h6, -⟩ := Pick_spec L (p := q + 1) [0, 60, 110, 130, 250, (-1), 86400001] (by omega) (by omega) (by simp) (by simp)
  obtain ⟨e, he, hok⟩ := ProgramFault_total p
  obtain ⟨rF, hF1, hF2⟩ := Fitting_spec he hok (by omega) t
  obtain ⟨rE, hE1, hE2⟩ := Encores_spec he (by omega) u
  rw [h1, Option.bind_some]
  simp only
  rw [h5, Option.bind_some]
  simp only
  rw [h6, Option.bind_some]
  simp only
  rw [hF1, Option.bind_some, hE1, Option.bind_some, he, Option.bind_some]
  have g1 : (ifB (decide (t < 0)) ((m_gleelaw2_when true 1).bind fun y18 => (m_gleelaw2_errs [e, y18]).bind fun y20 => some (.inl y20)) ((m_gleelaw2_when (decide (t > 5184000000)) 1).bind fun y21 => (m_gleelaw2_errs [e, y21]).bind fun y23 => some (.inl y23)) : Option (Int ⊕ Bool)) = some (.inl (if e = 0 then (if 0 ≤ t ∧ t ≤ 5184000000 then 0 else 1) else e)) := by
    by_cases a : t < 0
    · rw [decide_eq_true a, ifB_true, when_eq, Option.bind_some, errs2, if_pos rfl, if_neg (by omega : ¬ (0 ≤ t ∧ t ≤ 5184000000))]; rfl
    · rw [decide_eq_false a, ifB_false, when_eq, Option.bind_some, errs2]
      by_cases b : t > 5184000000
      · rw [decide_eq_true b, if_pos rfl, if_neg (by omega : ¬ (0 ≤ t ∧ t ≤ 5184000000))]; rfl
      · rw [decide_eq_false b, if_neg (by simp : ¬ (false = true)), if_pos (by omega : (0 ≤ t ∧ t ≤ 5184000000))]; rfl
  have g2 : (ifB (decide (u < 0)) ((m_gleelaw2_when true 1).bind fun y27 => (m_gleelaw2_when ((p.Items.length : Int) == 0) 8).bind fun y28 => (m_gleelaw2_errs [e, y27, y28]).bind fun y30 => some (.inl y30)) ((m_gleelaw2_when (decide (u > 86400000)) 1).bind fun y31 => (m_gleelaw2_when ((p.Items.length : Int) == 0) 8).bind fun y32 => (m_gleelaw2_errs [e, y31, y32]).bind fun y34 => some (.inl y34)) : Option (Int ⊕ Bool)) = some (.inl (if e = 0 then (if 0 ≤ u ∧ u ≤ 86400000 then (if p.Items.length ≠ 0 then 0 else 8) else 1) else e)) := by
    have hn : (if ((p.Items.length : Int) == 0) = true then (8 : Int) else 0) = if p.Items.length ≠ 0 then 0 else 8 := by
      by_cases c : p.Items.length = 0
      · simp [c]
      · simp [c]
    by_cases a : u < 0
    · rw [decide_eq_true a, ifB_true, when_eq, Option.bind_some, when_eq, Option.bind_some, errs3, if_pos rfl, if_neg (by omega : ¬ (0 ≤ u ∧ u ≤ 86400000)), if_neg (by omega : ¬ (1 : Int) = 0)]; rfl
    · rw [decide_eq_false a, ifB_false, when_eq, Option.bind_some, when_eq, Option.bind_some, errs3]
      by_cases b : u > 86400000
      · rw [decide_eq_true b, if_pos rfl, if_neg (by omega : ¬ (0 ≤ u ∧ u ≤ 86400000)), if_neg (by omega : ¬ (1 : Int) = 0)]; rfl
      · rw [decide_eq_false b, if_neg (by simp : ¬ (false = true)), if_pos (by omega : (0 ≤ u ∧ u ≤ 86400000)), if_pos rfl, hn]; rfl
  rw [g1, Option.bind_some, fin_inl, g2, Option.bind_some, fin_inl]
  simp only
  have g3 : (ifB ((if e = 0 then (if 0 ≤ t ∧ t ≤ 5184000000 then (0 : Int) else 1) else e) == 0) ((m_gleeref2_FittingIn p t).bind fun y41 => some (.inl y41)) (some (.inl [])) : Option ((List ByteArray) ⊕ Bool)) = some (.inl (if e = 0 ∧ 0 ≤ t ∧ t ≤ 5184000000 then rF else [])) := by
    by_cases a : e = 0
    · by_cases b : 0 ≤ t ∧ t ≤ 5184000000
      · rw [if_pos a, if_pos b, (hF2 a b.1 b.2).1, if_pos ⟨a, b⟩]; rfl
      · rw [if_pos a, if_neg b, if_neg (fun h => b h.2)]; rfl
    · rw [if_neg a, if_neg (fun h => a h.1), show (e == 0) = false by simpa using a]; rfl
  have g4 : (ifB ((if e = 0 then (if 0 ≤ u ∧ u ≤ 86400000 then (if p.Items.length ≠ 0 then (0 : Int) else 8) else 1) else e) == 0) ((m_gleeref2_EncoresIn p u).bind fun y48 => some (.inl y48)) (some (.inl [])) : Option ((List ByteArray) ⊕ Bool)) = some (.inl (if e = 0 ∧ (0 ≤ u ∧ u ≤ 86400000) ∧ p.Items.length ≠ 0 then rE else [])) := by
    by_cases a : e = 0
    · by_cases b : 0 ≤ u ∧ u ≤ 86400000
      · by_cases c : p.Items.length ≠ 0
        · rw [if_pos a, if_pos b, if_pos c, hE2 a b.1 b.2 c, if_pos ⟨a, b, c⟩]; rfl
        · rw [if_pos a, if_pos b, if_neg c, if_neg (fun h => c h.2.2)]; rfl
      · rw [if_pos a, if_neg b, if_neg (fun h => b h.2.1)]; rfl
    · rw [if_neg a, if_neg (fun h => a h.1), show (e == 0) = false by simpa using a]; rfl
  rw [g3, Option.bind_some, fin_inl, g4, Option.bind_some, fin_inl]
  have r1 : ∀ z : Int, (z == z) = true := fun z => by simp
  simp only [r1, ifB_true, EqualStr, Option.bind_some, sung_true]
end Go.G
