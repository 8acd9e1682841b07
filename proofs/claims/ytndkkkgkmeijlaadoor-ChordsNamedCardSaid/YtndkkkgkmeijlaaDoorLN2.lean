/- LN2: names are parsed alike. In plain Lean, no program in sight. -/
import Derived.Test.YtndkkkgkmeijlaaDoorLN1
import Derived.Lib.ItoaLen
namespace Go.G
open Go Go.J
theorem indexByte_lt (l : List UInt8) (b : UInt8) : Lib.indexByte l b < l.length ∧ -1 ≤ Lib.indexByte l b := by
  induction l with
  | nil => simp [Lib.indexByte]
  | cons x t ih =>
    unfold Lib.indexByte
    split
    · refine ⟨?_, ?_⟩ <;> (try simp only [List.length_cons]) <;> (try simp) <;> (try omega)
    · split
      · refine ⟨?_, ?_⟩ <;> (try simp only [List.length_cons]) <;> (try simp) <;> (try omega)
      · refine ⟨?_, ?_⟩ <;> (try simp only [List.length_cons]) <;> (try simp) <;> (try omega)
theorem Cut_spec (s : ByteArray) (c : UInt8) (hs : s.size ≤ 1000) : ∃ a b f, m_strings_Cut s (ByteArray.mk [c].toArray) = some (a, b, f) ∧ a.size ≤ s.size ∧ b.size ≤ s.size := by
  have hI : ∃ i, m_stringslite_Index s (ByteArray.mk [c].toArray) = some i ∧ -1 ≤ i ∧ i < s.size := by
    unfold m_stringslite_Index
    have h1 : ((ByteArray.mk [c].toArray).size : Int) = 1 := rfl
    rw [h1]
    by_cases he : (ByteArray.mk [c].toArray).toList == s.toList
    · have hsz : s.size = 1 := by
        have := eq_of_beq he
        rw [ByteArray.toList_eq, ByteArray.toList_eq] at this
        rw [size_data, ← this]; rfl
      rw [he]
      exact ⟨0, rfl, by omega, by omega⟩
    · rw [Bool.eq_false_iff.2 he]
      have h2 : strI (ByteArray.mk [c].toArray) 0 = some (c.toNat : Int) := by
        have := strI_nat (ByteArray.mk [c].toArray) 0
        simpa using this
      have h3 := indexByte_lt s.data.toList c
      refine ⟨Lib.indexByte s.data.toList c, ?_, h3.2, by rw [size_data]; exact h3.1⟩
      show ((strI (ByteArray.mk [c].toArray) 0).bind fun c4 => (m_stringslite_IndexByte s c4).bind fun y5 => some y5) = _
      rw [h2, Option.bind_some]
      unfold m_stringslite_IndexByte
      rw [u8_back]; rfl
  obtain ⟨i, h1, h2, h3⟩ := hI
  unfold m_strings_Cut m_stringslite_Cut
  rw [h1, Option.bind_some]
  have h4 : ((ByteArray.mk [c].toArray).size : Int) = 1 := rfl
  by_cases hi : i ≥ 0
  · rw [decide_eq_true hi, ifB_true, h4, w64_id (by omega)]
    unfold strS
    rw [if_pos (by omega), if_pos (by omega)]
    refine ⟨_, _, _, rfl, ?_, ?_⟩
    · rw [ByteArray.size_extract]; omega
    · rw [ByteArray.size_extract]; omega
  · rw [decide_eq_false hi, ifB_false]
    exact ⟨_, _, _, rfl, Nat.le_refl _, by simp⟩
theorem IndexStr (a : List ByteArray) (v : ByteArray) : ∃ i, m_slices_Index_string_string a v = some i ∧ -1 ≤ i ∧ i < a.length := by
  obtain ⟨n, h1, h2⟩ := ixM_spec (fun x : ByteArray => some (v.toList == x.toList)) (fun x => v.toList == x.toList) a (fun _ _ => rfl)
  refine ⟨n, h1, ?_⟩
  rcases h2 with ⟨rfl, -⟩ | ⟨k, rfl, hk, -⟩
  · omega
  · omega
theorem Parse_tie (s : ByteArray) (hs : s.size ≤ 1000) : ∃ c e, m_chord_Parse s = some (c, e) ∧ m_gleeref2_ParsedOf s = some (c, e) := by
  unfold m_chord_Parse m_gleeref2_ParsedOf
  obtain ⟨a, b, ok, h1, -, hb⟩ := Cut_spec s 32 hs
  obtain ⟨k, t, turned, h2, -, ht⟩ := Cut_spec b 47 (by omega)
  have hR : m_gleeref2_roots = m_chord_rootWords := rfl
  have hK : m_gleeref2_kinds = m_chord_kindWords := rfl
  rw [hR, hK]
  obtain ⟨R, hR1⟩ : ∃ R, m_chord_rootWords = some R := ⟨_, rfl⟩
  obtain ⟨K, hK1, hK2⟩ : ∃ K, m_chord_kindWords = some K ∧ K.length = 8 := ⟨_, rfl, rfl⟩
  obtain ⟨ri, h3, -, -⟩ := IndexStr R a
  obtain ⟨ki, h4, -, h5⟩ := IndexStr K k
  obtain ⟨n, okN, n', h6, h7, h8⟩ := Number_tie t (by omega)
  have hk : m_chord_isKind ki = some (decide (1 ≤ ki)) := by
    unfold m_chord_isKind
    rw [Outside_spec, Option.bind_some, Bool.not_not]
    congr 1
    rw [decide_eq_decide]; omega
  rw [h1, Option.bind_some, Option.bind_some]
  simp only
  rw [h2, Option.bind_some, Option.bind_some, hR1, hK1, Option.bind_some, Option.bind_some]
  simp only
  rw [h3, Option.bind_some, Option.bind_some, Option.bind_some, Option.bind_some]
  rw [h4, Option.bind_some, Option.bind_some, hk, CheckChord_eq]
  have hfin : ∀ z : Int, ∃ c e, ((m_gleeref2_ChordFault (TChord.mk ri ki z)).bind fun y22 => ifB (y22 != 0) (some ((TChord.mk 0 0 0), y22)) (some ((TChord.mk ri ki z), 0))) = some (c, e) := fun z => by
    obtain ⟨e, he, -⟩ := ChordFault_total (TChord.mk ri ki z)
    rw [he, Option.bind_some]
    cases (e != 0) with
    | true => exact ⟨_, _, rfl⟩
    | false => exact ⟨_, _, rfl⟩
  have e1 : decide (ki < 1) = !decide (1 ≤ ki) := by
    by_cases h : ki < 1
    · rw [decide_eq_true h, decide_eq_false (by omega)]; rfl
    · rw [decide_eq_false h, decide_eq_true (by omega)]; rfl
  rw [e1, h6, h7]
  cases turned with
  | false =>
    cases ok with
    | false => exact ⟨_, _, rfl, rfl⟩
    | true =>
      cases decide (ri < 0) with
      | true => exact ⟨_, _, rfl, rfl⟩
      | false =>
        cases decide (1 ≤ ki) with
        | false => exact ⟨_, _, rfl, rfl⟩
        | true =>
          obtain ⟨c, e, h⟩ := hfin 0
          exact ⟨c, e, h, h⟩
  | true =>
    cases okN with
    | false =>
      cases ok with
      | false => exact ⟨_, _, rfl, rfl⟩
      | true =>
        cases decide (ri < 0) with
        | true => exact ⟨_, _, rfl, rfl⟩
        | false =>
          cases decide (1 ≤ ki) with
          | false => exact ⟨_, _, rfl, rfl⟩
          | true => exact ⟨_, _, rfl, rfl⟩
    | true =>
      have hn := h8 rfl
      subst hn
      simp only [Option.bind_some, ifB_true, fin_inl, Bool.not_true, ifB_false]
      by_cases hp : n' > 0
      · rw [decide_eq_true hp, decide_eq_false (show ¬ n' < 1 by omega)]
        cases ok with
        | false => exact ⟨_, _, rfl, rfl⟩
        | true =>
          cases decide (ri < 0) with
          | true => exact ⟨_, _, rfl, rfl⟩
          | false =>
            cases decide (1 ≤ ki) with
            | false => exact ⟨_, _, rfl, rfl⟩
            | true =>
              obtain ⟨c, e, h⟩ := hfin n'
              exact ⟨c, e, h, h⟩
      · rw [decide_eq_false hp, decide_eq_true (show n' < 1 by omega)]
        cases ok with
        | false => exact ⟨_, _, rfl, rfl⟩
        | true =>
          cases decide (ri < 0) with
          | true => exact ⟨_, _, rfl, rfl⟩
          | false =>
            cases decide (1 ≤ ki) with
            | false => exact ⟨_, _, rfl, rfl⟩
            | true => exact ⟨_, _, rfl, rfl⟩
end Go.G
