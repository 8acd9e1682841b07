/- LTm: tones as words: read and written. In plain Lean, no program in sight. -/
import Derived.Test.YtlhfimbpjdfdgabGreatDoorLT5
import Derived.Test.YtlhfimbpjdfdgabGreatDoorLU1
namespace Go.G
open Go Go.J
set_option linter.unusedSimpArgs false
set_option linter.unusedVariables false
def bs (a : ByteArray) : BL := a.data.toList
theorem ba_bs (a : ByteArray) : a = toB (bs a) := (toB_data a).symm
/-! cutting -/
def cut1 (c : UInt8) : BL → Option (BL × BL)
  | [] => none
  | b :: l => if b = c then some ([], l) else (cut1 c l).map fun q => (b :: q.1, q.2)
theorem cut1_none (c : UInt8) : ∀ (w : BL), cut1 c w = none → c ∉ w
  | [], _ => by simp
  | b :: l, h => by
    unfold cut1 at h
    by_cases hb : b = c
    · rw [if_pos hb] at h; cases h
    · rw [if_neg hb] at h
      have := cut1_none c l (Option.map_eq_none_iff.1 h)
      simp [this, Ne.symm hb]
theorem cut1_some (c : UInt8) : ∀ (w a r : BL), cut1 c w = some (a, r) → w = a ++ c :: r ∧ c ∉ a
  | [], a, r, h => by cases h
  | b :: l, a, r, h => by
    unfold cut1 at h
    by_cases hb : b = c
    · rw [if_pos hb] at h
      cases h
      subst hb
      exact ⟨rfl, by simp⟩
    · rw [if_neg hb] at h
      obtain ⟨⟨a', r'⟩, h1, h2⟩ := Option.map_eq_some_iff.1 h
      cases h2
      obtain ⟨g1, g2⟩ := cut1_some c l a' r' h1
      exact ⟨by rw [g1]; rfl, by simp [g2, Ne.symm hb]⟩
theorem index_hit (c : UInt8) : ∀ (a r : BL), c ∉ a → Lib.index (a ++ c :: r) [c] = (a.length : Int)
  | [], r, _ => by rw [List.nil_append, index_cons1, if_pos rfl]; rfl
  | b :: a, r, h => by
    have hb : b ≠ c := fun e => h (by simp [e])
    have ha : c ∉ a := fun e => h (by simp [e])
    rw [List.cons_append, index_cons1, if_neg hb, index_hit c a r ha]
    rw [if_neg (by first | (simp; done) | (simp; omega))]
    simp
theorem index_miss (c : UInt8) : ∀ (a : BL), c ∉ a → Lib.index a [c] = -1
  | [], _ => rfl
  | b :: a, h => by
    have hb : b ≠ c := fun e => h (by simp [e])
    have ha : c ∉ a := fun e => h (by simp [e])
    rw [index_cons1, if_neg hb, index_miss c a ha]; rfl
theorem splitK_hit {c : UInt8} {a r : BL} (h : c ∉ a) (k : Nat) : Lib.splitK [c] 0 (k + 1) (a ++ c :: r) = a :: Lib.splitK [c] 0 k r := by
  rw [Lib.splitK, index_hit c a r h, if_neg (by first | (simp; done) | (simp; omega))]
  simp
theorem splitK_miss {c : UInt8} {a : BL} (h : c ∉ a) : ∀ k, Lib.splitK [c] 0 k a = [a]
  | 0 => rfl
  | k + 1 => by rw [Lib.splitK, index_miss c a h]; rfl
/-- cut in three -/
def three (c : UInt8) (w : BL) : List BL := match cut1 c w with
  | none => [w]
  | some (a, r) => match cut1 c r with
    | none => [a, r]
    | some (b, t) => [a, b, t]
theorem SplitN_three (c : UInt8) (w : BL) (hw : w.length ≤ 1000000) : m_strings_SplitN (toB w) (oneB c) 3 = some ((three c w).map toB) := by
  unfold m_strings_SplitN
  rw [if_pos ⟨by rw [toB_size]; omega, (by show 1 ≤ (toB [c]).size; rw [toB_size]; exact Nat.le_refl _), by decide, by decide⟩]
  congr 1
  have e : ∀ n, Lib.splitB (oneB c) 0 n (toB w) = (Lib.splitK [c] 0 n w).map toB := fun n => by
    have := Lib.splitB_data (oneB c) 0 n (toB w)
    rw [← map_toB_data (Lib.splitB (oneB c) 0 n (toB w)), this]; rfl
  rw [e]
  congr 1
  rw [toB_size]
  unfold three
  cases h1 : cut1 c w with
  | none => rw [splitK_miss (cut1_none c w h1)]
  | some q =>
    obtain ⟨a, r⟩ := q
    obtain ⟨g1, g2⟩ := cut1_some c w a r h1
    have hl : a.length + (r.length + 1) = w.length := by rw [g1]; simp
    obtain ⟨m, hm⟩ : ∃ m, min (3 : Int).toNat (w.length + 1) - 1 = m + 1 := ⟨min (3 : Int).toNat (w.length + 1) - 2, by have : (3 : Int).toNat = 3 := rfl; omega⟩
    rw [hm, g1, splitK_hit g2]
    simp only
    congr 1
    cases h2 : cut1 c r with
    | none => rw [splitK_miss (cut1_none c r h2)]
    | some q =>
      obtain ⟨b, t⟩ := q
      obtain ⟨k1, k2⟩ := cut1_some c r b t h2
      have hl2 : b.length + (t.length + 1) = r.length := by rw [k1]; simp
      have hm1 : m = 0 + 1 := by have : (3 : Int).toNat = 3 := rfl; omega
      rw [hm1, k1, splitK_hit k2]; rfl
/-! numbers -/
theorem numB_facts {s : ByteArray} {n : Int} (hs : s.size ≤ 1000000) (h : numB s = some n) : inR n ∧ (47 : UInt8) ∉ s.data.toList := by
  obtain ⟨-, n', g1, g2⟩ := Number_spec s hs
  have e := g2 n h
  subst e
  rw [h] at g1
  obtain ⟨d, neg, hC, hT, hsd, hng⟩ := prefix_spec s
  have hds : d.size ≤ s.size := by
    rw [size_data, size_data, hsd]
    split
    · simp
    · exact Nat.le_refl _
  unfold m_gleeref2_Number at g1
  rw [show m_strings_TrimPrefix s (ByteArray.mk [45].toArray) = some d from hT, Option.bind_some] at g1
  by_cases h0 : (d.toList == ByteArray.empty.toList) = true
  · rw [h0] at g1; simp at g1
  rw [Bool.eq_false_iff.2 h0, ifB_false] at g1
  by_cases h1 : (d.size : Int) > 15
  · rw [decide_eq_true h1] at g1; simp at g1
  rw [decide_eq_false h1, ifB_false, show (ByteArray.mk [48, 49, 50, 51, 52, 53, 54, 55, 56, 57].toArray) = digB from rfl, only_spec d digB (by omega), Option.bind_some] at g1
  cases hA : d.data.toList.all fun b => decide (b ∈ digB.data.toList) with
  | false => rw [hA] at g1; simp at g1
  | true =>
    rw [hA] at g1
    simp only [Bool.not_true, Option.bind_some, fin_inl, ifB_false] at g1
    cases hAt : m_strconv_Atoi s with
    | none => rw [hAt] at g1; cases g1
    | some v =>
      rw [hAt, Option.bind_some] at g1
      cases hIt : m_strconv_Itoa v.1 with
      | none => rw [hIt] at g1; cases g1
      | some y =>
        rw [hIt, Option.bind_some] at g1
        have e1 : v.1 = n' := congrArg Prod.fst (Option.some.inj g1)
        refine ⟨?_, fun h47 => ?_⟩
        · unfold m_strconv_Itoa at hIt
          unfold inR
          by_cases hr : -9223372036854775808 ≤ v.1 ∧ v.1 ≤ 9223372036854775807
          · rw [← e1]; exact hr
          · rw [if_neg hr] at hIt; cases hIt
        · have hd : ∀ b ∈ d.data.toList, b ≠ 47 := fun b hb => by
            have := dig_mem b (List.all_eq_true.1 hA b hb)
            rintro rfl
            exact absurd this (by decide)
          rw [hsd] at h47
          split at h47
          · rcases List.mem_cons.1 h47 with g | g
            · exact absurd g (by decide)
            · exact hd _ g rfl
          · exact hd _ h47 rfl
def natB (w : BL) : Option Int := match numB (toB w) with
  | some n => if 0 ≤ n then some n else none
  | none => none
theorem natB_some {w : BL} {n : Int} (hw : w.length ≤ 1000000) (h : natB w = some n) : numB (toB w) = some n ∧ 0 ≤ n ∧ inR n ∧ (47 : UInt8) ∉ w := by
  unfold natB at h
  cases hn : numB (toB w) with
  | none => rw [hn] at h; cases h
  | some m =>
    rw [hn] at h
    simp only at h
    by_cases h0 : 0 ≤ m
    · rw [if_pos h0] at h
      cases h
      have := numB_facts (s := toB w) (by rw [toB_size]; exact hw) hn
      exact ⟨rfl, h0, this.1, this.2⟩
    · rw [if_neg h0] at h; cases h
theorem natural_spec (w : BL) (hw : w.length ≤ 1000000) : ∃ n', m_piece_natural (toB w) = some (n', (natB w).isSome) ∧ ∀ n, natB w = some n → n' = n := by
  unfold m_piece_natural natB
  rw [(Number_spec (toB w) (by rw [toB_size]; exact hw)).1, Option.bind_some]
  cases numB (toB w) with
  | none => exact ⟨_, rfl, fun n h => by cases h⟩
  | some m =>
    simp only [Option.getD_some, Option.isSome_some, ifB_true]
    by_cases h0 : 0 ≤ m
    · rw [if_pos h0, decide_eq_true (show m ≥ 0 from h0)]
      exact ⟨_, rfl, fun n h => by cases h; rfl⟩
    · rw [if_neg h0, decide_eq_false (show ¬ m ≥ 0 from h0)]
      exact ⟨_, rfl, fun n h => by cases h⟩
theorem refnat_spec (w : BL) (hw : w.length ≤ 1000000) : ∃ n' b, m_gleeref2_Number (toB w) 15 = some (n', b) ∧ (b && decide (n' ≥ 0)) = (natB w).isSome ∧ ∀ n, natB w = some n → n' = n := by
  obtain ⟨-, n', g1, g2⟩ := Number_spec (toB w) (by rw [toB_size]; exact hw)
  refine ⟨n', _, g1, ?_, ?_⟩
  · unfold natB
    cases hn : numB (toB w) with
    | none => rfl
    | some m =>
      rw [g2 m hn]
      simp only [Option.isSome_some, Bool.true_and]
      by_cases h0 : 0 ≤ m
      · rw [if_pos h0, decide_eq_true (show m ≥ 0 from h0)]; rfl
      · rw [if_neg h0, decide_eq_false (show ¬ m ≥ 0 from h0)]; rfl
  · intro n h
    unfold natB at h
    cases hn : numB (toB w) with
    | none => rw [hn] at h; cases h
    | some m =>
      rw [hn] at h
      simp only at h
      by_cases h0 : 0 ≤ m
      · rw [if_pos h0] at h
        rw [← Option.some.inj h]; exact g2 m hn
      · rw [if_neg h0] at h; cases h
/-! a tone -/
def lenL (b : BL) : Option (TFraction × Bool) :=
  let l := if b.getLast? = some 126 then b.dropLast else b
  match cut1 47 l with
  | none => none
  | some (p, q) => match natB p, natB q with
    | some n, some d => some (⟨n, d⟩, decide (b.getLast? = some 126))
    | _, _ => none
def noteL (a : BL) : Option Int := if a = [45] then some (-1) else natB a
def finT (a b t : BL) : Option TTone := match noteL a, lenL b with
  | some n, some (f, td) => some ⟨n, f, toB t, td⟩
  | _, _ => none
def toneL (w : BL) : Option TTone := match cut1 58 w with
  | none => none
  | some (a, r) => match cut1 58 r with
    | none => finT a r []
    | some (b, t) => if t = [] then none else finT a b t
theorem suffix_spec (b : BL) (hb : b.length ≤ 1000000) : m_strings_CutSuffix (toB b) (ByteArray.mk [126].toArray) = some (toB (if b.getLast? = some 126 then b.dropLast else b), decide (b.getLast? = some 126)) := by
  by_cases h : b.getLast? = some 126
  · have e : b = b.dropLast ++ [126] := by
      obtain ⟨l, hl⟩ := List.getLast?_eq_some_iff.1 h
      rw [hl]; simp
    rw [if_pos h, decide_eq_true h]
    exact CutSuffix_hit (c := 126) (s := toB b) (a := b.dropLast) (by rw [data_toB]; exact e) (by rw [toB_size]; omega)
  · rw [if_neg h, decide_eq_false h]
    exact CutSuffix_miss (c := 126) (s := toB b) (by rw [data_toB]; exact h) (by rw [toB_size]; omega)
theorem lenL_sz (b : BL) : (if b.getLast? = some 126 then b.dropLast else b).length ≤ b.length := by
  split
  · rw [List.length_dropLast]; omega
  · exact Nat.le_refl _
theorem dash_tl (t : BL) : ((toB t).toList == (ByteArray.mk [45].toArray).toList) = decide (t = [45]) := by
  rw [ba_tl, data_toB]
theorem progTail (a b t : BL) (ha : a.length ≤ 1000000) (hb : b.length ≤ 1000000) : ∃ y, ((m_strings_CutSuffix (toB b) (ByteArray.mk [126].toArray)).bind fun y7 => (m_strings_Cut y7.1 (ByteArray.mk [47].toArray)).bind fun y8 => (m_piece_natural y8.1).bind fun y9 => (m_piece_natural y8.2.1).bind fun y10 => (ifB (!((toB a).toList == (ByteArray.mk [45].toArray).toList)) ((m_piece_natural (toB a)).bind fun y15 => some (.inl (y15.2, y15.1))) (some (.inl (true, (-1)))) : Option ((Bool × Int) ⊕ (TTone × Bool))).bind fun k14 => Sum.fin k14 fun u12 => ifB y8.2.2 (ifB y9.2 (ifB y10.2 (some ((TTone.mk u12.2 (TFraction.mk y9.1 y10.1) (toB t) y7.2), u12.1)) (some ((TTone.mk u12.2 (TFraction.mk y9.1 y10.1) (toB t) y7.2), false))) (some ((TTone.mk u12.2 (TFraction.mk y9.1 y10.1) (toB t) y7.2), false))) (some ((TTone.mk u12.2 (TFraction.mk y9.1 y10.1) (toB t) y7.2), false))) = some (y, (finT a b t).isSome) ∧ ∀ z, finT a b t = some z → y = z := by
  have hl := lenL_sz b
  rw [suffix_spec b hb, Option.bind_some]
  unfold finT lenL
  simp only
  generalize (if b.getLast? = some 126 then b.dropLast else b) = l at hl
  generalize decide (b.getLast? = some 126) = td
  have hnote : ∃ n', (ifB (!((toB a).toList == (ByteArray.mk [45].toArray).toList)) ((m_piece_natural (toB a)).bind fun y15 => some (.inl (y15.2, y15.1))) (some (.inl (true, (-1)))) : Option ((Bool × Int) ⊕ (TTone × Bool))) = some (.inl ((noteL a).isSome, n')) ∧ ∀ n, noteL a = some n → n' = n := by
    rw [dash_tl]
    unfold noteL
    by_cases h : a = [45]
    · rw [decide_eq_true h, if_pos h]
      exact ⟨-1, rfl, fun n h => by cases h; rfl⟩
    · obtain ⟨n', g1, g2⟩ := natural_spec a ha
      rw [decide_eq_false h, if_neg h, Bool.not_false, ifB_true, g1]
      exact ⟨n', rfl, g2⟩
  obtain ⟨n', hn1, hn2⟩ := hnote
  rw [hn1]
  cases hc : cut1 47 l with
  | none =>
    have h47 := cut1_none 47 l hc
    obtain ⟨p', k1, -⟩ := natural_spec l (by omega)
    obtain ⟨q', k2, -⟩ := natural_spec [] (by decide)
    rw [show m_strings_Cut (toB l) (ByteArray.mk [47].toArray) = some (toB l, ByteArray.empty, false) from Cut_miss (c := 47) (s := toB l) h47, Option.bind_some]
    simp only
    rw [k1, Option.bind_some, show ByteArray.empty = toB [] from rfl, k2]
    simp only [Option.bind_some, fin_inl, ifB_false]
    cases noteL a <;> exact ⟨_, rfl, fun z hz => by cases hz⟩
  | some pq =>
    obtain ⟨p, q⟩ := pq
    obtain ⟨e1, e2⟩ := cut1_some 47 l p q hc
    have hlen : p.length + (q.length + 1) = l.length := by rw [e1]; simp
    obtain ⟨p', k1, k2⟩ := natural_spec p (by omega)
    obtain ⟨q', k3, k4⟩ := natural_spec q (by omega)
    rw [show m_strings_Cut (toB l) (ByteArray.mk [47].toArray) = some (toB p, toB q, true) from Cut_hit (c := 47) (s := toB l) (by rw [data_toB]; exact e1) e2 (by rw [toB_size]; omega), Option.bind_some]
    simp only
    rw [k1, Option.bind_some, k3]
    simp only [Option.bind_some, fin_inl, ifB_true]
    cases hp : natB p with
    | none => cases hna : noteL a <;> exact ⟨_, rfl, fun z hz => by cases hz⟩
    | some n =>
      cases hq : natB q with
      | none => cases hna : noteL a <;> exact ⟨_, rfl, fun z hz => by cases hz⟩
      | some d =>
        rw [k2 n hp, k4 d hq]
        cases hna : noteL a with
        | none => exact ⟨_, rfl, fun z hz => by cases hz⟩
        | some m =>
          rw [hn2 m hna]
          exact ⟨_, rfl, fun z hz => by cases hz; rfl⟩
theorem readTone_spec (w : BL) (hw : w.length ≤ 1000000) : ∃ y, m_piece_readTone (toB w) = some (y, (toneL w).isSome) ∧ ∀ z, toneL w = some z → y = z := by
  unfold m_piece_readTone toneL
  cases h1 : cut1 58 w with
  | none =>
    rw [show m_strings_Cut (toB w) (ByteArray.mk [58].toArray) = some (toB w, ByteArray.empty, false) from Cut_miss (c := 58) (s := toB w) (cut1_none 58 w h1), Option.bind_some]
    simp only
    rw [show m_strings_Cut ByteArray.empty (ByteArray.mk [58].toArray) = some (ByteArray.empty, ByteArray.empty, false) from Cut_miss (c := 58) (s := ByteArray.empty) (by decide), Option.bind_some]
    exact ⟨_, rfl, fun z hz => by cases hz⟩
  | some ar =>
    obtain ⟨a, r⟩ := ar
    obtain ⟨e1, e2⟩ := cut1_some 58 w a r h1
    have hlen : a.length + (r.length + 1) = w.length := by rw [e1]; simp
    rw [show m_strings_Cut (toB w) (ByteArray.mk [58].toArray) = some (toB a, toB r, true) from Cut_hit (c := 58) (s := toB w) (by rw [data_toB]; exact e1) e2 (by rw [toB_size]; omega), Option.bind_some]
    simp only
    cases h2 : cut1 58 r with
    | none =>
      rw [show m_strings_Cut (toB r) (ByteArray.mk [58].toArray) = some (toB r, ByteArray.empty, false) from Cut_miss (c := 58) (s := toB r) (cut1_none 58 r h2), Option.bind_some]
      simp only [Bool.not_true, ifB_false, Option.bind_some, fin_inl]
      obtain ⟨y, g1, g2⟩ := progTail a r [] (by omega) (by omega)
      exact ⟨y, g1, g2⟩
    | some bt =>
      obtain ⟨b, t⟩ := bt
      obtain ⟨f1, f2⟩ := cut1_some 58 r b t h2
      have hlen2 : b.length + (t.length + 1) = r.length := by rw [f1]; simp
      rw [show m_strings_Cut (toB r) (ByteArray.mk [58].toArray) = some (toB b, toB t, true) from Cut_hit (c := 58) (s := toB r) (by rw [data_toB]; exact f1) f2 (by rw [toB_size]; omega), Option.bind_some]
      simp only [Bool.not_true, ifB_false, ifB_true, Option.bind_some, fin_inl]
      rw [ba_nil, data_toB]
      by_cases ht : t = []
      · rw [decide_eq_true ht, if_pos ht]
        exact ⟨_, rfl, fun z hz => by cases hz⟩
      · rw [decide_eq_false ht, if_neg ht, ifB_false]
        obtain ⟨y, g1, g2⟩ := progTail a b t (by omega) (by omega)
        exact ⟨y, g1, g2⟩
end Go.G
