/- LEm: EditsMerge, the row. In plain Lean, no program in sight. -/
import Derived.Test.YtmocokkjfgfkbacGreatDoorLEd
namespace Go.G
open Go Go.J
set_option linter.unusedSimpArgs false
set_option linter.unusedVariables false
theorem addE_in : ∀ (t out w : List TEdit), addE out t = some w → (∀ e ∈ t, kE e ∈ out.map kE) → w = out
  | [], out, w, h, _ => by unfold addE at h; exact (Option.some.inj h).symm
  | e :: t, out, w, h, hk => by
    unfold addE at h
    split at h
    · rename_i hf
      obtain ⟨o, ho, e'⟩ := List.mem_map.1 (hk e (List.mem_cons_self ..))
      exact absurd e' (find_kE.1 hf o ho)
    · split at h
      · exact addE_in t out w h (fun e' h' => hk e' (List.mem_cons_of_mem _ h'))
      · cases h
theorem errsM2 (a b : Int) : m_gleelaw2_errs [a, b] = some (if a = 0 then b else a) := by
  unfold m_gleelaw2_errs
  have hs : ∀ i v t, rangeM m_gleelaw2_errs_l1 i (v :: t) () = if v = 0 then rangeM m_gleelaw2_errs_l1 (i + 1) t () else some (.ret v) := fun i v t => by
    rw [rangeM_cons]
    unfold m_gleelaw2_errs_l1
    by_cases h : v = 0
    · rw [if_pos h, show (v != 0) = false by simpa using h]; rfl
    · rw [if_neg h, show (v != 0) = true by simpa using h]; rfl
  rw [hs, hs]
  by_cases h : a = 0
  · by_cases h2 : b = 0
    · simp only [h, h2, if_true]; rfl
    · simp only [h, h2, if_true, if_false]; rfl
  · simp only [h, if_false]; rfl
theorem errsM3 (a b c : Int) : m_gleelaw2_errs [a, b, c] = some (if a = 0 then if b = 0 then c else b else a) := by
  unfold m_gleelaw2_errs
  have hs : ∀ i v t, rangeM m_gleelaw2_errs_l1 i (v :: t) () = if v = 0 then rangeM m_gleelaw2_errs_l1 (i + 1) t () else some (.ret v) := fun i v t => by
    rw [rangeM_cons]
    unfold m_gleelaw2_errs_l1
    by_cases h : v = 0
    · rw [if_pos h, show (v != 0) = false by simpa using h]; rfl
    · rw [if_neg h, show (v != 0) = true by simpa using h]; rfl
  rw [hs, hs, hs]
  by_cases h : a = 0
  · by_cases h2 : b = 0
    · by_cases h3 : c = 0
      · simp only [h, h2, h3, if_true]; rfl
      · simp only [h, h2, h3, if_true, if_false]; rfl
    · simp only [h, h2, if_true, if_false]; rfl
  · simp only [h, if_false]; rfl
theorem whenM (b : Bool) (x : Int) : m_gleelaw2_when b x = some (if b = true then x else 0) := by cases b <;> rfl
theorem MomentFault_E (n : Int) : m_gleeref2_MomentFault n = some (if mo n = true then 0 else 1) := by
  unfold m_gleeref2_MomentFault
  rw [Moment_E, Option.bind_some]
  cases mo n <;> rfl
/-- THE LAW: at every seed the answer is true. -/
theorem EditsMerge_true (L : List Int) : m_gleelaw2_EditsMerge L = some true := by
  unfold m_gleelaw2_EditsMerge
  obtain ⟨b, q0, h1, hb, h2, h3⟩ := Bars_spec L
  obtain ⟨parts, q1, h4, h5, h6, hpl⟩ := PartNames_spec L (p := q0) (by omega) (by omega)
  obtain ⟨n1, h7, h8, h9⟩ := Range_spec L (p := q1) (a := 0) (b := 8) (by omega) (by omega) (by omega) (by omega) (by omega)
  obtain ⟨x, q2, h10, h11, h12, hxl, hx⟩ := Edits_spec L b (by omega) (p := q1 + 1) (n := n1) (by omega) (by omega) h8 (by omega)
  obtain ⟨n2, h13, h14, h15⟩ := Range_spec L (p := q2) (a := 0) (b := 4) (by omega) (by omega) (by omega) (by omega) (by omega)
  obtain ⟨y, q3, h16, h17, h18, hyl, hy⟩ := Edits_spec L b (by omega) (p := q2 + 1) (n := n2) (by omega) (by omega) h14 (by omega)
  obtain ⟨part, h19, -⟩ := Some_spec L (p := q3) [(ByteArray.mk [97, 108, 116, 111].toArray), (ByteArray.mk [98, 97, 115, 115].toArray), (ByteArray.mk [122, 122].toArray)] (by omega) (by omega) (by simp) (by simp)
  obtain ⟨at_, h20, -⟩ := Pick_spec L (p := q3 + 1) [0, 5, 10, 40, (-1)] (by omega) (by omega) (by simp) (by simp)
  obtain ⟨f, h21⟩ := Flip_spec L (p := q3 + 1 + 1) (n := 2) (by omega) (by omega) (by omega)
  rw [h1, Option.bind_some]
  simp only
  rw [h4, Option.bind_some]
  simp only
  rw [h7, Option.bind_some]
  simp only
  rw [h10, Option.bind_some]
  simp only
  rw [h13, Option.bind_some]
  simp only
  rw [h16, Option.bind_some]
  simp only
  rw [h19, Option.bind_some]
  simp only
  rw [h20, Option.bind_some]
  simp only
  obtain ⟨g, q4, hk, hq4, hg⟩ : ∃ (g : Bool) (q4 : Int), (ifB (decide ((x.length : Int) > 0)) ((m_gleemake_Stream_Flip L (q3 + 1 + 1) 2).bind fun y21 => some (.inl (y21.1, y21.2))) (some (.inl (false, q3 + 1 + 1))) : Option ((Bool × Int) ⊕ Bool)) = some (.inl (g, q4)) ∧ (0 ≤ q4 ∧ q4 ≤ 20000) ∧ (g = true → 0 < x.length) := by
    by_cases h0 : (x.length : Int) > 0
    · rw [decide_eq_true h0, ifB_true, h21]
      exact ⟨f, _, rfl, by omega, fun _ => by omega⟩
    · rw [decide_eq_false h0]
      exact ⟨false, _, rfl, by omega, fun h => by cases h⟩
  rw [hk, Option.bind_some, fin_inl]
  simp only
  obtain ⟨z, hz, hzE, hzl, hU⟩ : ∃ z, (ifB g ((m_gleemake_Stream_Next L q4 (x.length : Int)).bind fun y27 => (sliceI x y27.1 (x.length : Int)).bind fun q28 => (m_slices_Clone_api_Edit_api_Edit q28).bind fun y29 => (m_gleemake_Stream_Flip L y27.2 4).bind fun y32 => ifB y32.1 ((getI y29 0).bind fun e33 => (getI y29 0).bind fun e34 => some (.inl (x, (y29.set ((0 : Int).toNat) (TEdit.mk e34.By e34.No (w64 (e33.At + 1)) e34.Part e34.Bar e34.Tones))))) (some (.inl (x, y29)))) (some (.inl (x, y))) : Option (((List TEdit) × (List TEdit)) ⊕ Bool)) = some (.inl (x, z)) ∧ (∀ e ∈ z, EOk e) ∧ z.length ≤ 12 ∧ (∀ w, addE x z = some w → w.length ≤ 12) := by
    cases g with
    | false => exact ⟨y, rfl, hy, by omega, fun w hw => by have := addE_len y x w hw; omega⟩
    | true =>
      have hpos := hg rfl
      obtain ⟨i, g1, g2, g3⟩ := Next_spec L (p := q4) (n := x.length) hq4.1 (by omega) (by omega)
      have g3 := g3 (by omega)
      obtain ⟨f4, hf4⟩ := Flip_spec L (p := q4 + 1) (n := 4) (by omega) (by omega) (by omega)
      have hsl : sliceI x i (x.length : Int) = some (x.drop i.toNat) := by
        rw [sliceI_of (a := i.toNat) (b := x.length) (by omega) rfl (by omega) (by omega)]
        congr 1
        rw [List.take_of_length_le (by simp)]
      have hdl : (x.drop i.toNat).length = x.length - i.toNat := List.length_drop ..
      have hdm : ∀ e ∈ x.drop i.toNat, e ∈ x := fun e h => List.mem_of_mem_drop h
      rw [ifB_true, g1, Option.bind_some]
      simp only
      rw [hsl, Option.bind_some, Clone_E _ (by omega), Option.bind_some, hf4, Option.bind_some]
      simp only
      have hin : ∀ z : List TEdit, (∀ e ∈ z, kE e ∈ x.map kE) → ∀ w, addE x z = some w → w.length ≤ 12 := fun z hz w hw => by rw [addE_in z x w hw hz]; omega
      cases f4 with
      | false =>
        exact ⟨_, rfl, fun e h => hx e (hdm e h), by omega, hin _ fun e h => List.mem_map.2 ⟨e, hdm e h, rfl⟩⟩
      | true =>
        have h0 : (x.drop i.toNat)[0]? = some ((x.drop i.toNat)[0]'(by omega)) := List.getElem?_eq_getElem _
        have h0m := hdm _ (List.mem_of_getElem? h0)
        rw [ifB_true, getI_of (i := 0) (n := 0) rfl h0, Option.bind_some, Option.bind_some]
        have hmem : ∀ e ∈ (x.drop i.toNat).set ((0 : Int).toNat) (TEdit.mk ((x.drop i.toNat)[0]'(by omega)).By ((x.drop i.toNat)[0]'(by omega)).No (w64 (((x.drop i.toNat)[0]'(by omega)).At + 1)) ((x.drop i.toNat)[0]'(by omega)).Part ((x.drop i.toNat)[0]'(by omega)).Bar ((x.drop i.toNat)[0]'(by omega)).Tones), ∃ e' ∈ x, kE e' = kE e ∧ e'.Tones = e.Tones := fun e he => by
          rcases List.mem_or_eq_of_mem_set he with h | h
          · exact ⟨e, hdm e h, rfl, rfl⟩
          · subst h
            exact ⟨_, h0m, rfl, rfl⟩
        refine ⟨_, rfl, fun e he => ?_, by rw [List.length_set]; omega, hin _ fun e he => ?_⟩
        · obtain ⟨e', h1, -, h2⟩ := hmem e he
          have := hx e' h1
          exact ⟨by rw [← h2]; exact this.ok, by rw [← h2]; exact this.len⟩
        · obtain ⟨e', h1, h2, -⟩ := hmem e he
          exact List.mem_map.2 ⟨e', h1, h2⟩
  rw [hz, Option.bind_some, fin_inl]
  simp only
  obtain ⟨fx, c1, hfx, -⟩ := CheckEdits_E b (by omega) parts (by omega) x hx (by omega)
  obtain ⟨fy, -, hfy, -⟩ := CheckEdits_E b (by omega) parts (by omega) z hzE (by omega)
  obtain ⟨w, e, m1, m2, m3⟩ := Merge_E (b := b) (by omega) (parts := parts) (by omega) hx hzE (by omega) (by omega) hU hfx hfy
  obtain ⟨u, e', w1, w2⟩ := Written_E (b := b) (by omega) (parts := parts) (by omega) hx (by omega) part at_ hfx
  rw [m1, Option.bind_some, w1, Option.bind_some, hfx, Option.bind_some, hfy, Option.bind_some, errsM2, Option.bind_some, ContainsE, Option.bind_some, whenM, Option.bind_some, MomentFault_E, Option.bind_some, errsM3, Option.bind_some, c1]
  have hM : (ifB ((if fx = 0 then fy else fx) == 0) ((m_gleeref2_EditsOf x z).bind fun y54 => some (.inl (y54.2, y54.1))) (some (.inl (if fx = 0 then fy else fx, []))) : Option ((Int × (List TEdit)) ⊕ Bool)) = some (.inl (if (if fx = 0 then fy else fx) = 0 then (e, w) else (if fx = 0 then fy else fx, []))) := by
    by_cases h : (if fx = 0 then fy else fx) = 0
    · rw [if_pos h, show ((if fx = 0 then fy else fx) == 0) = true by simpa using h, ifB_true, m2 h]; rfl
    · rw [if_neg h, show ((if fx = 0 then fy else fx) == 0) = false by simpa using h, ifB_false]
  rw [hM, Option.bind_some, fin_inl]
  try simp only
  have hW : (ifB ((if fx = 0 then if (if (!memS part parts) = true then (8 : Int) else 0) = 0 then if mo at_ = true then 0 else 1 else if (!memS part parts) = true then 8 else 0 else fx) == 0) ((m_gleeref2_WrittenOf b x part at_).bind fun y62 => some (.inl (y62.2, y62.1))) (some (.inl ((if fx = 0 then if (if (!memS part parts) = true then (8 : Int) else 0) = 0 then if mo at_ = true then 0 else 1 else if (!memS part parts) = true then 8 else 0 else fx), []))) : Option ((Int × (List TTone)) ⊕ Bool)) =
      some (.inl ((if fx ≠ 0 then ([], fx) else if memS part parts = false then ([], 8) else if mo at_ = false then ([], 1) else (u, e')).2, (if fx ≠ 0 then ([], fx) else if memS part parts = false then ([], (8 : Int)) else if mo at_ = false then ([], 1) else (u, e')).1)) := by
    by_cases h0 : fx = 0
    · simp only [h0, if_true, ne_eq, not_true_eq_false, if_false]
      cases hp : memS part parts with
      | false => rfl
      | true =>
        cases hm : mo at_ with
        | false => rfl
        | true =>
          rw [w2 h0 hp hm]
          rfl
    · simp only [h0, if_false, ne_eq, not_false_eq_true, if_true]
      rw [show (fx == 0) = false by simpa using h0, ifB_false]
  rw [hW, Option.bind_some, fin_inl]
  try simp only
  rw [Option.bind_some, show (fx == fx) = true by simp, ifB_true, EqualTn, written_spec]
  by_cases h : (if fx = 0 then fy else fx) = 0
  · simp only [if_pos h]
    rw [show (e == e) = true by simp, ifB_true, EqualSame w m3, Option.bind_some, ifB_true, beq_self_eq_true, ifB_true]
    simp only [decide_true]
    rfl
  · simp only [if_neg h]
    rw [show ((if fx = 0 then fy else fx) == if fx = 0 then fy else fx) = true by simp, ifB_true, EqualSame [] (by simp), Option.bind_some, ifB_true, beq_self_eq_true, ifB_true]
    simp only [decide_true]
    rfl
end Go.G
