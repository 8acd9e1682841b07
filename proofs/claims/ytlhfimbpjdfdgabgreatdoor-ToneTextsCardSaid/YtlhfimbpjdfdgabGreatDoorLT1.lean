/- LT1: numbers that are read: the program's way is the reference's. In plain Lean, no program in sight. -/
import Derived.Test.YtlhfimbpjdfdgabGreatDoorLBs
import Derived.Test.YtlhfimbpjdfdgabGreatDoorLN0
namespace Go.G
open Go Go.J
/-! ### numbers -/
def dashB : ByteArray := ByteArray.mk [45].toArray
def digB : ByteArray := ByteArray.mk [48, 49, 50, 51, 52, 53, 54, 55, 56, 57].toArray
theorem dig_mem (b : UInt8) (h : decide (b ∈ digB.data.toList) = true) : 48 ≤ b.toNat ∧ b.toNat ≤ 57 := by
  have h := of_decide_eq_true h
  simp only [digB, List.mem_cons, List.not_mem_nil, or_false] at h
  rcases h with rfl | rfl | rfl | rfl | rfl | rfl | rfl | rfl | rfl | rfl <;> decide
theorem HP_spec (s : ByteArray) : m_stringslite_HasPrefix s dashB = some (decide (s.data.toList[0]? = some 45)) := by
  unfold m_stringslite_HasPrefix
  have hd : (dashB.size : Int) = 1 := rfl
  rw [hd]
  cases hl : s.data.toList with
  | nil =>
    have : s.size = 0 := by rw [size_data, hl]; rfl
    rw [this]; rfl
  | cons b t =>
    have hsz : s.size = t.length + 1 := by rw [size_data, hl]; rfl
    rw [decide_eq_true (by omega), ifB_true]
    unfold strS
    rw [if_pos (by omega), Option.bind_some]
    congr 1
    have e1 : (s.extract (0 : Int).toNat (1 : Int).toNat).toList = [b] := by
      rw [ByteArray.toList_eq]
      simp [ByteArray.data_extract, hl]
    have e2 : dashB.toList = [45] := by rw [ByteArray.toList_eq]; rfl
    rw [e1, e2]
    by_cases hb : b = 45
    · subst hb; rfl
    · rw [decide_eq_false (by simpa using hb)]
      simpa using hb
theorem cut1_spec (s : ByteArray) (b : UInt8) (t : List UInt8) (hl : s.data.toList = b :: t) : ∃ d, strS s 1 (s.size : Int) = some d ∧ d.data.toList = t := by
  have hsz : s.size = t.length + 1 := by rw [size_data, hl]; rfl
  unfold strS
  rw [if_pos (by omega)]
  refine ⟨_, rfl, ?_⟩
  simp [ByteArray.data_extract, hl, hsz]
theorem prefix_spec (s : ByteArray) : ∃ d neg, m_strings_CutPrefix s dashB = some (d, neg) ∧ m_strings_TrimPrefix s dashB = some d ∧ s.data.toList = (if neg = true then 45 :: d.data.toList else d.data.toList) ∧ (neg = false → d = s ∧ s.data.toList[0]? ≠ some 45) := by
  unfold m_strings_CutPrefix m_strings_TrimPrefix m_stringslite_CutPrefix m_stringslite_TrimPrefix
  rw [HP_spec]
  by_cases h : s.data.toList[0]? = some 45
  · cases hl : s.data.toList with
    | nil => rw [hl] at h; cases h
    | cons b t =>
      rw [hl] at h
      have hb : b = 45 := by simpa using h
      subst hb
      obtain ⟨d, h1, h2⟩ := cut1_spec s _ t hl
      have hd : (dashB.size : Int) = 1 := rfl
      rw [decide_eq_true (by simp), hd, h1]
      exact ⟨d, true, rfl, rfl, by rw [h2]; rfl, by simp⟩
  · rw [decide_eq_false h]
    exact ⟨s, false, rfl, rfl, by simp, fun _ => ⟨rfl, h⟩⟩
theorem Number_tie (s : ByteArray) (hs : s.size ≤ 1000000) : ∃ n ok n', m_kit_Number s 15 = some (n, ok) ∧ m_gleeref2_Number s 15 = some (n', ok) ∧ (ok = true → n' = n) ∧ (ok = false → n = 0) := by
  obtain ⟨d, neg, hC, hT, hsd, hng⟩ := prefix_spec s
  have hds : d.size ≤ s.size := by
    rw [size_data, size_data, hsd]
    split
    · simp
    · exact Nat.le_refl _
  unfold m_kit_Number m_gleeref2_Number
  have hC' : m_strings_CutPrefix s (ByteArray.mk [45].toArray) = some (d, neg) := hC
  have hT' : m_strings_TrimPrefix s (ByteArray.mk [45].toArray) = some d := hT
  rw [hC', hT', Option.bind_some, Option.bind_some]
  simp only
  rw [ba_empty]
  by_cases h0 : d.size = 0
  · rw [decide_eq_true h0]; exact ⟨0, false, 0, rfl, rfl, by simp, fun _ => rfl⟩
  rw [decide_eq_false h0, ifB_false, ifB_false]
  by_cases h1 : (d.size : Int) > 15
  · rw [decide_eq_true h1]; exact ⟨0, false, 0, rfl, rfl, by simp, fun _ => rfl⟩
  rw [decide_eq_false h1, ifB_false, ifB_false]
  have hTr : m_strings_Trim d (ByteArray.mk [48, 49, 50, 51, 52, 53, 54, 55, 56, 57].toArray) = some ⟨(Lib.trimS d.data.toList digB.data.toList).toArray⟩ := by
    unfold m_strings_Trim
    rw [if_pos ⟨by omega, by decide, by decide⟩]
    rfl
  have hOn : m_gleeref2_only d (ByteArray.mk [48, 49, 50, 51, 52, 53, 54, 55, 56, 57].toArray) = some (d.data.toList.all fun b => decide (b ∈ digB.data.toList)) := only_spec d digB (by omega)
  have hz : (⟨(Lib.trimS d.data.toList digB.data.toList).toArray⟩ : ByteArray).size = 0 ↔ (d.data.toList.all fun b => decide (b ∈ digB.data.toList)) = true := by
    rw [← trimS_nil, size_data, List.length_eq_zero_iff]
  rw [hTr, hOn, Option.bind_some, Option.bind_some, ba_empty]
  by_cases hA : (d.data.toList.all fun b => decide (b ∈ digB.data.toList)) = true
  · rw [decide_eq_true (hz.2 hA), hA, Bool.not_true, ifB_false, Option.bind_some, fin_inl, ifB_false]
    have hdig : ∀ b ∈ d.data.toList, 48 ≤ b.toNat ∧ b.toNat ≤ 57 := fun b hb => dig_mem b (List.all_eq_true.1 hA b hb)
    have hlen : d.data.toList.length = d.size := (size_data d).symm
    have hne : d.data.toList ≠ [] := fun h => by rw [h] at hlen; simp at hlen; exact h0 hlen.symm
    obtain ⟨n, b0, hn, hb0, hiff, hp1, hp2, hp3⟩ := dec_tie d.data.toList hne hdig
    have hlt := Lib.decFrom_lt18 hn (by omega)
    have hN : Lib.decNat d.data.toList = some n := by
      unfold Lib.decNat
      rw [if_neg (by simpa using hne)]
      exact hn
    have e0 : strI d 0 = some (b0.toNat : Int) := by
      have := strI_nat d 0
      rw [hb0] at this
      simpa using this
    have hbr := hdig b0 (List.mem_of_getElem? hb0)
    have hAd : m_strconv_Atoi d = some ((n : Int), ()) := by
      unfold m_strconv_Atoi
      rw [if_pos (by omega)]
      have : Lib.atoi d.data.toList = some (n : Int) := by
        cases hl : d.data.toList with
        | nil => exact absurd hl hne
        | cons b t =>
          rw [hl] at hb0 hN
          have : b = b0 := by simpa using hb0
          subst this
          unfold Lib.atoi
          have n1 : (b == 45) = false := by
            rw [beq_eq_false_iff_ne]
            intro h; subst h
            exact absurd hbr (by decide)
          have n2 : (b == 43) = false := by
            rw [beq_eq_false_iff_ne]
            intro h; subst h
            exact absurd hbr (by decide)
          show (if (b == 45) = true then Option.map (fun m : Nat => -(m : Int)) (Lib.decNat t) else if (b == 43) = true then Option.map (fun m : Nat => (m : Int)) (Lib.decNat t) else Option.map (fun m : Nat => (m : Int)) (Lib.decNat (b :: t))) = some (n : Int)
          rw [n1, n2, if_neg (by simp), if_neg (by simp), hN]
          rfl
      rw [this]; rfl
    rw [e0, Option.bind_some, hAd]
    have ebb : ∀ (x : List UInt8), (⟨x.toArray⟩ : ByteArray).toList = x := fun x => by rw [ByteArray.toList_eq]
    cases neg with
    | false =>
      obtain ⟨hds2, -⟩ := hng rfl
      subst hds2
      have hIt : m_strconv_Itoa (n : Int) = some ⟨(Lib.decDigits n).toArray⟩ := by
        unfold m_strconv_Itoa
        rw [if_pos (by omega), Lib.itoa_nonneg]
      rw [hAd]
      simp only [Option.bind_some]
      rw [hIt]
      simp only [Option.bind_some]
      rw [ebb, ByteArray.toList_eq]
      by_cases hc : d.data.toList.length = 1 ∨ b0.toNat ≠ 48
      · refine ⟨n, true, n, ?_, by rw [hiff.2 hc]; simp, fun _ => rfl, by simp⟩
        by_cases h48 : b0.toNat = 48
        · have h1l : d.data.toList.length = 1 := by
            rcases hc with h | h
            · exact h
            · exact absurd h48 h
          rw [show ((b0.toNat : Int) == 48) = true by simp [h48], ifB_true, decide_eq_false (by omega), ifB_false]
          rfl
        · rw [show ((b0.toNat : Int) == 48) = false by simpa using (by omega : ¬ (b0.toNat : Int) = 48), ifB_false]
          rfl
      · have hc2 : d.data.toList.length ≠ 1 ∧ b0.toNat = 48 := by
          refine ⟨fun h => hc (.inl h), ?_⟩
          apply Classical.byContradiction
          intro h
          exact hc (.inr h)
        refine ⟨0, false, n, ?_, ?_, by simp, fun _ => rfl⟩
        · rw [show ((b0.toNat : Int) == 48) = true by simp [hc2.2], ifB_true, decide_eq_true (by omega), ifB_true]
          rfl
        · have : (Lib.decDigits n == d.data.toList) = false := by
            rw [beq_eq_false_iff_ne]
            exact fun h => hc (hiff.1 h)
          rw [this]
    | true =>
      have hsl : s.data.toList = 45 :: d.data.toList := hsd
      have hss : s.size = d.size + 1 := by rw [size_data, hsl, size_data]; rfl
      have hAs : m_strconv_Atoi s = some (-(n : Int), ()) := by
        unfold m_strconv_Atoi
        rw [if_pos (by omega), hsl]
        show (Option.map (fun n => (n, ())) (Option.map (fun m : Nat => -(m : Int)) (Lib.decNat d.data.toList))) = some (-(n : Int), ())
        rw [hN]
        rfl
      have hIt : m_strconv_Itoa (-(n : Int)) = some ⟨(Lib.itoa (-(n : Int))).toArray⟩ := by
        unfold m_strconv_Itoa
        rw [if_pos (by omega)]
      rw [hAs]
      simp only [Option.bind_some]
      rw [hIt]
      simp only [Option.bind_some]
      rw [ebb, ByteArray.toList_eq, hsl]
      by_cases h48 : b0.toNat = 48
      · refine ⟨0, false, -(n : Int), ?_, ?_, by simp, fun _ => rfl⟩
        · rw [show ((b0.toNat : Int) == 48) = true by simp [h48], ifB_true]
          by_cases hg : (d.size : Int) > 1
          · rw [decide_eq_true hg]; rfl
          · rw [decide_eq_false hg]; rfl
        · have : (Lib.itoa (-(n : Int)) == 45 :: d.data.toList) = false := by
            rw [beq_eq_false_iff_ne]
            intro h
            by_cases hz0 : n = 0
            · subst hz0
              have e1 : Lib.itoa (-((0 : Nat) : Int)) = Lib.decDigits 0 := Lib.itoa_nonneg 0
              rw [e1, Lib.decDigits_one (by omega)] at h
              simp at h
            · rw [Lib.itoa_neg n (by omega)] at h
              have h := List.cons.inj h
              rcases hiff.1 h.2 with h1 | h1
              · exact hz0 (hp3 h1 h48)
              · exact h1 h48
          rw [this]
      · have hn1 := hp1 h48
        refine ⟨-(n : Int), true, -(n : Int), ?_, ?_, fun _ => rfl, by simp⟩
        · rw [show ((b0.toNat : Int) == 48) = false by simpa using (by omega : ¬ (b0.toNat : Int) = 48), ifB_false, Option.bind_some, fin_inl, ifB_false, ifB_true, w64_id (by omega)]
          simp
        · rw [Lib.itoa_neg n hn1, hiff.2 (.inr h48)]
          simp
  · have hA' := Bool.eq_false_iff.2 hA
    rw [decide_eq_false (fun h => hA (hz.1 h)), hA']
    exact ⟨0, false, 0, rfl, rfl, by simp, fun _ => rfl⟩


/-- the number that a string is -/
def numB (s : ByteArray) : Option Int := match m_kit_Number s 15 with | some (n, true) => some n | _ => none
theorem Number_spec (s : ByteArray) (hs : s.size ≤ 1000000) : m_kit_Number s 15 = some ((numB s).getD 0, (numB s).isSome) ∧ ∃ n', m_gleeref2_Number s 15 = some (n', (numB s).isSome) ∧ ∀ n, numB s = some n → n' = n := by
  obtain ⟨n, ok, n', h1, h2, h3, h4⟩ := Number_tie s hs
  have e : numB s = if ok then some n else none := by unfold numB; rw [h1]; cases ok <;> rfl
  rw [h1, h2, e]
  cases ok with
  | true => exact ⟨rfl, n', rfl, fun m hm => by rw [h3 rfl]; simpa using hm⟩
  | false => rw [h4 rfl]; exact ⟨rfl, n', rfl, fun m hm => by simp at hm⟩
end Go.G
