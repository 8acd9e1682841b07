/- LH5: what is drawn; the law of the chords that are found. In plain Lean, no program in sight. -/
import Derived.Test.YtndkkkgkmeijlaaDoorLH4
namespace Go.G
open Go Go.J
theorem Odd_spec (L : List Int) {p a b : Int} (hp : 0 ≤ p) (hp' : p ≤ 999999000) (ha : -1000000000 ≤ a) (hab : a ≤ b) (hb : b ≤ 1000000000) :
    ∃ v q, m_gleemake_Stream_Odd L p a b = some (v, q) ∧ p ≤ q ∧ q ≤ p + 2 := by
  unfold m_gleemake_Stream_Odd
  obtain ⟨f, hf⟩ := Flip_spec L (n := 12) hp (by omega) (by omega)
  rw [hf, Option.bind_some]
  cases f with
  | true =>
    obtain ⟨v, h1, h2⟩ := Pick_spec L (p := p + 1) [w64 (a - 1), w64 (b + 1), a, b, -1099511627776, 1099511627776] (by omega) (by omega) (by simp) (by simp)
    rw [ifB_true, h1, Option.bind_some]
    exact ⟨v, p + 2, by simp [Int.add_assoc], by omega, by omega⟩
  | false =>
    obtain ⟨v, h1, h2, h3⟩ := Range_spec L (p := p + 1) (a := a) (b := b) (by omega) (by omega) (by omega) hab (by omega)
    rw [ifB_false, h1, Option.bind_some]
    exact ⟨v, p + 2, by simp [Int.add_assoc], by omega, by omega⟩
theorem Notes_spec (L : List Int) {q : Int} (hq : 0 ≤ q) (hq' : q ≤ 999000000) : ∃ n q', m_gleemake_Stream_Notes L q = some (n, q') ∧ q ≤ q' ∧ q' ≤ q + 100 := by
  unfold m_gleemake_Stream_Notes
  obtain ⟨r, h1, h2, h3⟩ := Range_spec L (p := q) (a := 0) (b := 11) hq (by omega) (by omega) (by omega) (by omega)
  obtain ⟨k, h4, h5, h6⟩ := Range_spec L (p := q + 1) (a := 1) (b := 7) (by omega) (by omega) (by omega) (by omega) (by omega)
  obtain ⟨T, -, h7, h8, -⟩ := tones_spec (r := r.toNat) (k := k.toNat) (t := 0) (by omega) (by omega) (by omega)
  rw [show ((r.toNat : Nat) : Int) = r by omega, show ((k.toNat : Nat) : Int) = k by omega] at h7
  have h7 : m_gleeref2_TonesOf ⟨r, k, 0⟩ = some T := h7
  rw [h1, Option.bind_some, h4, Option.bind_some]
  simp only
  rw [h7, Option.bind_some]
  obtain ⟨s, g1, p, out, rfl, g2, g3, g4⟩ := rangeM_invx (m_gleemake_Stream_Notes_l1 L) T (fun i s => ∃ (p : Int) (out : List Int), s = (p, out) ∧ q + 2 ≤ p ∧ p ≤ q + 2 + 2 * i ∧ out.length ≤ i) (by
    rintro i x s hx ⟨p, out, rfl, g2, g3, g4⟩
    have hi := (List.getElem?_eq_some_iff.1 hx).1
    unfold m_gleemake_Stream_Notes_l1
    simp only
    obtain ⟨f, hf⟩ := Flip_spec L (p := p) (n := 12) (by omega) (by omega) (by omega)
    rw [hf, Option.bind_some]
    simp only
    cases f with
    | true => exact ⟨_, rfl, p + 1, out, rfl, by omega, by omega, by omega⟩
    | false =>
      obtain ⟨v, hv, -⟩ := Range_spec L (p := p + 1) (a := 0) (b := 3) (by omega) (by omega) (by omega) (by omega) (by omega)
      rw [Bool.not_false, ifB_true, hv, Option.bind_some, appM_of (by simp; omega) (by omega)]
      exact ⟨_, rfl, p + 1 + 1, _, rfl, by omega, by omega, by simp; omega⟩) (q + 1 + 1, []) ⟨_, _, rfl, by omega, by omega, by simp⟩
  rw [g1, Option.bind_some, fin_brk]
  simp only
  obtain ⟨f, hf⟩ := Flip_spec L (p := p) (n := 4) (by omega) (by omega) (by omega)
  rw [hf, Option.bind_some]
  simp only
  obtain ⟨u, hu, hul⟩ : ∃ u : List Int, (ifB f ((appM 8 out [w64 (24 + r)]).bind fun q27 => some (.inl q27)) (some (.inl out)) : Option ((List Int) ⊕ ((List Int) × Int))) = some (.inl u) ∧ u.length ≤ 5 := by
    cases f with
    | true => exact ⟨_, by rw [ifB_true, appM_of (by simp; omega) (by omega)]; rfl, by simp; omega⟩
    | false => exact ⟨_, rfl, by omega⟩
  rw [hu, Option.bind_some, fin_inl]
  by_cases hgt : (u.length : Int) > 0
  · obtain ⟨f2, hf2⟩ := Flip_spec L (p := p + 1) (n := 10) (by omega) (by omega) (by omega)
    rw [decide_eq_true hgt, ifB_true, hf2, Option.bind_some, Option.bind_some, fin_inl]
    simp only
    cases f2 with
    | true =>
      obtain ⟨i, hi, hi0, hi1⟩ := Next_spec L (p := p + 1 + 1) (n := u.length) (by omega) (by omega) (by omega)
      have hi1 := hi1 (by omega)
      obtain ⟨v, q2, hv, e1, e2⟩ := Odd_spec L (p := p + 1 + 1 + 1) (a := 0) (b := 127) (by omega) (by omega) (by omega) (by omega) (by omega)
      have hit : i.toNat < u.length := by omega
      rw [ifB_true, hi, Option.bind_some]
      simp only
      rw [hv, Option.bind_some, getI_of (n := i.toNat) (by omega) (List.getElem?_eq_getElem hit), Option.bind_some]
      exact ⟨_, _, rfl, by simp only; omega, by simp only; omega⟩
    | false => exact ⟨_, _, rfl, by omega, by omega⟩
  · rw [decide_eq_false hgt, ifB_false, Option.bind_some, fin_inl]
    exact ⟨_, _, rfl, by simp only; omega, by simp only; omega⟩
theorem AChord_spec (L : List Int) {q : Int} (hq : 0 ≤ q) (hq' : q ≤ 999000000) : ∃ c q', m_gleemake_Stream_AChord L q = some (c, q') ∧ q ≤ q' ∧ q' ≤ q + 10 := by
  unfold m_gleemake_Stream_AChord
  obtain ⟨f, hf⟩ := Flip_spec L (p := q) (n := 40) hq (by omega) (by omega)
  rw [hf, Option.bind_some]
  simp only
  cases f with
  | true =>
    obtain ⟨a, q1, h1, h2, h3⟩ := Odd_spec L (p := q + 1) (a := 0) (b := 11) (by omega) (by omega) (by omega) (by omega) (by omega)
    obtain ⟨b, q2, h4, h5, h6⟩ := Odd_spec L (p := q1) (a := 1) (b := 7) (by omega) (by omega) (by omega) (by omega) (by omega)
    obtain ⟨c, q3, h7, h8, h9⟩ := Odd_spec L (p := q2) (a := 0) (b := 3) (by omega) (by omega) (by omega) (by omega) (by omega)
    rw [ifB_true, h1, Option.bind_some]
    simp only
    rw [h4, Option.bind_some]
    simp only
    rw [h7, Option.bind_some]
    exact ⟨_, _, rfl, by simp only; omega, by simp only; omega⟩
  | false =>
    obtain ⟨a, h1, -⟩ := Range_spec L (p := q + 1) (a := 0) (b := 11) (by omega) (by omega) (by omega) (by omega) (by omega)
    obtain ⟨b, h2, -⟩ := Range_spec L (p := q + 1 + 1) (a := 1) (b := 7) (by omega) (by omega) (by omega) (by omega) (by omega)
    obtain ⟨c, h3, -⟩ := Pick_spec L (p := q + 1 + 1 + 1) [0, 0, 0, 1, 2] (by omega) (by omega) (by simp) (by simp)
    rw [ifB_false, h1, Option.bind_some]
    simp only
    rw [h2, Option.bind_some]
    simp only
    rw [h3, Option.bind_some]
    exact ⟨_, _, rfl, by simp only; omega, by simp only; omega⟩
theorem Chords_spec (L : List Int) {q many : Int} (hq : 0 ≤ q) (hq' : q ≤ 998000000) (hm : 0 ≤ many) (hm' : many ≤ 10) : ∃ l q', m_gleemake_Stream_Chords L q many = some (l, q') ∧ q ≤ q' ∧ q' ≤ q + 1000 := by
  unfold m_gleemake_Stream_Chords
  rw [show rangeI many = some (List.range many.toNat) by unfold rangeI; rw [if_pos (by omega)], Option.bind_some]
  obtain ⟨s, g1, p, out, rfl, g2, g3, g4⟩ := rangeM_invx (m_gleemake_Stream_Chords_l1 L) (List.range many.toNat) (fun i s => ∃ (p : Int) (out : List TChord), s = (p, out) ∧ q ≤ p ∧ p ≤ q + 20 * i ∧ out.length ≤ i) (by
    rintro i x s hx ⟨p, out, rfl, g2, g3, g4⟩
    have hi : i < many.toNat := by have := (List.getElem?_eq_some_iff.1 hx).1; simpa using this
    unfold m_gleemake_Stream_Chords_l1
    simp only
    obtain ⟨c, q1, h1, h2, h3⟩ := AChord_spec L (q := p) (by omega) (by omega)
    obtain ⟨f, hf⟩ := Flip_spec L (p := q1) (n := 2) (by omega) (by omega) (by omega)
    rw [h1, Option.bind_some]
    simp only
    rw [hf, Option.bind_some]
    simp only
    cases f with
    | true =>
      obtain ⟨v, hv, -⟩ := Pick_spec L (p := q1 + 1) [0, 5, 7] (by omega) (by omega) (by simp) (by simp)
      rw [ifB_true, hv, Option.bind_some, Option.bind_some, fin_inl]
      simp only
      rw [appM_of (by simp; omega) (by omega)]
      exact ⟨_, rfl, _, _, rfl, by omega, by omega, by simp; omega⟩
    | false =>
      rw [ifB_false, Option.bind_some, fin_inl]
      simp only
      rw [appM_of (by simp; omega) (by omega)]
      exact ⟨_, rfl, _, _, rfl, by omega, by omega, by simp; omega⟩) (q, []) ⟨_, _, rfl, by omega, by omega, by simp⟩
  rw [g1, Option.bind_some, fin_brk]
  rw [List.length_range] at g3
  exact ⟨_, _, rfl, by simp only; omega, by simp only; omega⟩
theorem EqualChord (l : List TChord) : m_slices_Equal_api_Chord_api_Chord l l = some true := by
  unfold m_slices_Equal_api_Chord_api_Chord
  rw [show ((l.length : Int) != (l.length : Int)) = false by simp, ifB_false]
  obtain ⟨s, h, -⟩ := rangeM_invx (m_slices_Equal_api_Chord_api_Chord_l1 l) l (fun _ _ => True) (fun i x s hx _ => by
    unfold m_slices_Equal_api_Chord_api_Chord_l1
    rw [getI_nat, hx, Option.bind_some, decide_eq_true rfl, Bool.not_true, ifB_false]
    exact ⟨_, rfl, trivial⟩) () trivial
  rw [h]; rfl
theorem when_eq (b : Bool) (x : Int) : m_gleelaw2_when b x = some (if b = true then x else 0) := by cases b <;> rfl
theorem errs2 (a b : Int) : m_gleelaw2_errs [a, b] = some (if a = 0 then b else a) := by
  unfold m_gleelaw2_errs
  rw [rangeM_cons]
  unfold m_gleelaw2_errs_l1
  by_cases h : a = 0
  · rw [if_pos h, show (a != 0) = false by simpa using h, ifB_false, Option.bind_some, run_nxt, rangeM_cons]
    by_cases h2 : b = 0
    · rw [show (b != 0) = false by simpa using h2, h2]; rfl
    · rw [show (b != 0) = true by simpa using h2]; rfl
  · rw [if_neg h, show (a != 0) = true by simpa using h]; rfl
theorem sounded_true : m_gleelaw2_sounded = some true := by
  have hI : m_strconv_Itoa 1 = some (ByteArray.mk [49].toArray) := by
    unfold m_strconv_Itoa
    rw [if_pos (by omega), show (1 : Int).toNat = 1 from rfl, Lib.decDigits, dif_pos (by omega)]
    rfl
  have hc : m_chord_CheckChord ⟨1, 2, 1⟩ = some 0 := by kernel_rfl
  have hN : m_chord_Name ⟨1, 2, 1⟩ = some (ByteArray.mk [99, 35, 32, 109, 105, 110, 47, 49].toArray, 0) := by
    unfold m_chord_Name
    rw [hc]
    simp only [Option.bind_some]
    rw [hI]
    rfl
  unfold m_gleelaw2_sounded
  rw [hN]
  simp
/-- THE LAW: at every seed the answer is true. -/
theorem ChordsFound_true (L : List Int) : m_gleelaw2_ChordsFound L = some true := by
  unfold m_gleelaw2_ChordsFound
  obtain ⟨n, q1, h1, h2, h3⟩ := Notes_spec L (q := 0) (by omega) (by omega)
  obtain ⟨a, q2, h4, h5, h6⟩ := AChord_spec L (q := q1) (by omega) (by omega)
  obtain ⟨b, q3, h7, h8, h9⟩ := AChord_spec L (q := q2) (by omega) (by omega)
  obtain ⟨t, h10, -⟩ := Pick_spec L (p := q3) [0, 1, 7, (-5), 127, (-127), 128, (-128)] (by omega) (by omega) (by simp) (by simp)
  obtain ⟨many, h11, h12, h13⟩ := Range_spec L (p := q3 + 1) (a := 0) (b := 4) (by omega) (by omega) (by omega) (by omega) (by omega)
  obtain ⟨r, q4, h14, -, -⟩ := Chords_spec L (q := q3 + 1 + 1) (many := many) (by omega) (by omega) h12 (by omega)
  obtain ⟨en, hen⟩ : ∃ e, m_gleeref2_NotesFault n 12 = some e := ⟨_, NotesFault_eq n 12⟩
  obtain ⟨ea, hea, hra⟩ := ChordFault_total a
  obtain ⟨eb, heb, hrb⟩ := ChordFault_total b
  obtain ⟨er, her, hrr⟩ := ChordsFault_total r 144
  obtain ⟨w1, k1, k2⟩ := Of_spec hen
  obtain ⟨w2, k3, k4⟩ := Shared_spec hea heb hra hrb
  obtain ⟨w3, k5, k6⟩ := Shift_spec hea t
  obtain ⟨w4, k7, k8⟩ := Keys_spec her hrr
  rw [h1, Option.bind_some]
  simp only
  rw [h4, Option.bind_some]
  simp only
  rw [h7, Option.bind_some]
  simp only
  rw [h10, Option.bind_some]
  simp only
  rw [h11, Option.bind_some]
  simp only
  rw [h14, Option.bind_some]
  simp only
  rw [k1, Option.bind_some, k3, Option.bind_some, k5, Option.bind_some, k7, Option.bind_some, hen, Option.bind_some, hea, Option.bind_some, heb, Option.bind_some, errs2, Option.bind_some, Option.bind_some]
  generalize hes : (if ea = 0 then eb else ea) = es at k3 k4 ⊢
  generalize het : (if ea = 0 then (if -127 ≤ t ∧ t ≤ 127 then (0 : Int) else 1) else ea) = et at k5 ⊢
  have g1 : (ifB (decide (t < (-127))) ((m_gleelaw2_when true 1).bind fun y29 => (m_gleelaw2_errs [ea, y29]).bind fun y31 => (m_gleeref2_ChordsFault r 144).bind fun y32 => some (.inl (en, es, y31, y32))) ((m_gleelaw2_when (decide (t > 127)) 1).bind fun y33 => (m_gleelaw2_errs [ea, y33]).bind fun y35 => (m_gleeref2_ChordsFault r 144).bind fun y36 => some (.inl (en, es, y35, y36))) : Option ((Int × Int × Int × Int) ⊕ Bool)) = some (.inl (en, es, et, er)) := by
    rw [← het, her]
    by_cases c1 : t < -127
    · rw [decide_eq_true c1, ifB_true, when_eq, Option.bind_some, errs2, if_pos rfl, if_neg (by omega : ¬ (-127 ≤ t ∧ t ≤ 127))]; rfl
    · rw [decide_eq_false c1, ifB_false, when_eq, Option.bind_some, errs2]
      by_cases c2 : t > 127
      · rw [decide_eq_true c2, if_pos rfl, if_neg (by omega : ¬ (-127 ≤ t ∧ t ≤ 127))]; rfl
      · rw [decide_eq_false c2, if_neg (by simp : ¬ (false = true)), if_pos (by omega : -127 ≤ t ∧ t ≤ 127)]; rfl
  rw [g1, Option.bind_some, fin_inl]
  simp only
  have g2 : (ifB (en == 0) ((m_gleeref2_ChordsOf n).bind fun y44 => some (.inl y44)) (some (.inl [])) : Option ((List TChord) ⊕ Bool)) = some (.inl (if en = 0 then w1 else [])) := by
    by_cases c : en = 0
    · rw [if_pos c, k2 c, c]; rfl
    · rw [if_neg c, show (en == 0) = false by simpa using c]; rfl
  have g3 : (ifB (es == 0) ((m_gleeref2_SharedOf a b).bind fun y51 => some (.inl y51)) (some (.inl 0)) : Option (Int ⊕ Bool)) = some (.inl (if es = 0 then w2 else 0)) := by
    by_cases c : es = 0
    · rw [if_pos c, k4 c, c]; rfl
    · rw [if_neg c, show (es == 0) = false by simpa using c]; rfl
  have g5 : (ifB (er == 0) ((m_gleeref2_KeysOf r).bind fun y60 => some (.inl y60)) (some (.inl [])) : Option ((List Int) ⊕ Bool)) = some (.inl (if er = 0 then w4 else [])) := by
    by_cases c : er = 0
    · rw [if_pos c, k8 c, c]; rfl
    · rw [if_neg c, show (er == 0) = false by simpa using c]; rfl
  have g4 : ∃ x y z : Int, (ifB (et == 0) ((m_gleeref2_ShiftedChord a t).bind fun y55 => some (.inl (y55.Root, y55.Kind, y55.Turn))) (some (.inl (0, 0, 0))) : Option ((Int × Int × Int) ⊕ Bool)) = some (.inl (x, y, z)) ∧ (if ea = 0 ∧ -127 ≤ t ∧ t ≤ 127 then w3 else ⟨0, 0, 0⟩) = (⟨x, y, z⟩ : TChord) := by
    rw [k6, ← het]
    by_cases c : ea = 0
    · by_cases c2 : -127 ≤ t ∧ t ≤ 127
      · rw [if_pos c, if_pos c2, if_pos ⟨c, c2⟩]; exact ⟨_, _, _, rfl, rfl⟩
      · rw [if_pos c, if_neg c2, if_neg (fun h => c2 h.2)]; exact ⟨_, _, _, rfl, rfl⟩
    · rw [if_neg c, if_neg (fun h => c h.1), show (ea == 0) = false by simpa using c]; exact ⟨_, _, _, rfl, rfl⟩
  obtain ⟨x, y, z, g4, g6⟩ := g4
  rw [g2, Option.bind_some, fin_inl, g3, Option.bind_some, fin_inl, g4, Option.bind_some, fin_inl, g5, Option.bind_some, fin_inl]
  have r1 : ∀ z : Int, (z == z) = true := fun z => by simp
  simp only [r1, ifB_true, EqualChord, Option.bind_some, sounded_true, g6, decide_true, EqualInt_spec]
end Go.G
