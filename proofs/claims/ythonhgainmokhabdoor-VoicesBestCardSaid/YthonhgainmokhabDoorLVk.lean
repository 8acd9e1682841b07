/- LVk: VoicesBest. In plain Lean, no program in sight. -/
import Derived.Test.YthonhgainmokhabDoorLVj
import Derived.Test.YthonhgainmokhabDoorLH5
namespace Go.G
open Go Go.J
set_option linter.unusedSimpArgs false
set_option linter.unusedVariables false
/-! ### what is asked -/
def badR (x : TRange) : Bool := !decide (0 ≤ x.Low ∧ x.Low ≤ x.High) || decide (x.High > 127)
def wideR (x : TRange) : Bool := decide (x.High - x.Low > 24)
def rangesF (rs : List TRange) : Int := if rs.length = 0 then 8 else if (rs.length : Int) > 5 then 2 else if rs.any badR = true then 1 else if rs.any wideR = true then 2 else 0
theorem good_rs {rs : List TRange} (h : ¬ rs.any badR = true) : ∀ x ∈ rs, 0 ≤ x.Low ∧ x.Low ≤ x.High ∧ x.High ≤ 127 := fun x hx => by
  have h1 : badR x = false := by
    rw [← Bool.not_eq_true]
    exact fun e => h (List.any_eq_true.2 ⟨x, hx, e⟩)
  unfold badR at h1
  rw [Bool.or_eq_false_iff, Bool.not_eq_false', decide_eq_true_eq, decide_eq_false_iff_not] at h1
  omega
theorem rangesFault_E (rs : List TRange) : m_chord_rangesFault rs = some (rangesF rs) := by
  unfold m_chord_rangesFault rangesF
  by_cases h0 : rs.length = 0
  · rw [if_pos h0, show ((rs.length : Int) == 0) = true by simp [h0]]; rfl
  · rw [if_neg h0, show ((rs.length : Int) == 0) = false by simpa using h0, ifB_false]
    by_cases h5 : (rs.length : Int) > 5
    · rw [if_pos h5, decide_eq_true h5]; rfl
    · rw [if_neg h5, decide_eq_false h5, ifB_false, anyU m_chord_rangesFault_l1 badR 1 rs 0 (fun i x hx => by
        unfold m_chord_rangesFault_l1 badR
        rw [Outside_spec, Option.bind_some]
        cases decide (0 ≤ x.Low ∧ x.Low ≤ x.High) with
        | false => rfl
        | true => cases decide (x.High > 127) <;> rfl)]
      by_cases hb : rs.any badR = true
      · rw [if_pos hb, if_pos hb]; rfl
      · rw [if_neg hb, if_neg hb, Option.bind_some, fin_brk]
        have hg := good_rs hb
        have hc : m_slices_ContainsFunc_api_Range_api_Range__chord_rangesFault_1 rs = some (rs.any wideR) := cfM_specV m_chord_rangesFault_1 wideR rs (fun x hx => by
          have := hg x hx
          unfold m_chord_rangesFault_1 wideR
          rw [w64_id (n := x.High - x.Low) (by omega), w64_id (by omega)]
          congr 1
          rw [decide_eq_decide]
          omega)
        rw [hc, Option.bind_some]
        cases rs.any wideR <;> rfl
theorem RangesFault_E (rs : List TRange) : m_gleeref2_RangesFault rs = some (rangesF rs) := by
  unfold m_gleeref2_RangesFault rangesF
  by_cases h0 : rs.length = 0
  · rw [if_pos h0, show ((rs.length : Int) == 0) = true by simp [h0]]; rfl
  · rw [if_neg h0, show ((rs.length : Int) == 0) = false by simpa using h0, ifB_false]
    by_cases h5 : (rs.length : Int) > 5
    · rw [if_pos h5, decide_eq_true h5]; rfl
    · rw [if_neg h5, decide_eq_false h5, ifB_false, anyU m_gleeref2_RangesFault_l1 badR 1 rs 0 (fun i x hx => by
        unfold m_gleeref2_RangesFault_l1 badR
        rw [in_specH, Option.bind_some]
        cases decide (0 ≤ x.Low ∧ x.Low ≤ x.High) with
        | false => rfl
        | true => cases decide (x.High > 127) <;> rfl)]
      by_cases hb : rs.any badR = true
      · rw [if_pos hb, if_pos hb]; rfl
      · rw [if_neg hb, if_neg hb, Option.bind_some, fin_brk]
        have hg := good_rs hb
        have hc : m_slices_ContainsFunc_api_Range_api_Range__gleeref2_RangesFault_1 rs = some (rs.any wideR) := cfM_specV m_gleeref2_RangesFault_1 wideR rs (fun x hx => by
          have := hg x hx
          unfold m_gleeref2_RangesFault_1 wideR
          rw [w64_id (by omega)])
        rw [hc, Option.bind_some]
        cases rs.any wideR <;> rfl
theorem rangesF_zero {rs : List TRange} (h : rangesF rs = 0) : RR rs := by
  unfold rangesF at h
  by_cases h0 : rs.length = 0
  · rw [if_pos h0] at h; omega
  · rw [if_neg h0] at h
    by_cases h5 : (rs.length : Int) > 5
    · rw [if_pos h5] at h; omega
    · rw [if_neg h5] at h
      by_cases hb : rs.any badR = true
      · rw [if_pos hb] at h; omega
      · rw [if_neg hb] at h
        by_cases hw : rs.any wideR = true
        · rw [if_pos hw] at h; omega
        · refine ⟨by omega, fun r hr => ?_⟩
          have h1 := good_rs hb r hr
          have h2 : wideR r = false := by
            rw [← Bool.not_eq_true]
            exact fun e => hw (List.any_eq_true.2 ⟨r, hr, e⟩)
          unfold wideR at h2
          rw [decide_eq_false_iff_not] at h2
          omega
def leapF (leap : Int) : Int := if 0 ≤ leap ∧ leap ≤ 24 then 0 else 1
theorem leapFault_E (leap : Int) : m_gleelaw2_leapFault leap = some (leapF leap) := by
  unfold m_gleelaw2_leapFault leapF
  by_cases h : leap < 0
  · rw [decide_eq_true h, ifB_true, if_neg (by omega)]; rfl
  · rw [decide_eq_false h, ifB_false, when_eq, Option.bind_some]
    by_cases h2 : leap > 24
    · rw [decide_eq_true h2, if_pos rfl, if_neg (by omega)]
    · rw [decide_eq_false h2, if_neg (by simp), if_pos (by omega)]
def faultB (l : List TChord) (cf : Int) (rs : List TRange) (leap : Int) : Int := if l.length = 0 then 8 else if cf = 0 then if rangesF rs = 0 then leapF leap else rangesF rs else cf
theorem errs4 (a b c d : Int) : m_gleelaw2_errs [a, b, c, d] = some (if a = 0 then if b = 0 then if c = 0 then d else c else b else a) := by
  unfold m_gleelaw2_errs
  have hs : ∀ i v t, rangeM m_gleelaw2_errs_l1 i (v :: t) () = if v = 0 then rangeM m_gleelaw2_errs_l1 (i + 1) t () else some (.ret v) := fun i v t => by
    rw [rangeM_cons]
    unfold m_gleelaw2_errs_l1
    by_cases h : v = 0
    · rw [if_pos h, show (v != 0) = false by simpa using h]; rfl
    · rw [if_neg h, show (v != 0) = true by simpa using h]; rfl
  rw [hs, hs, hs, hs]
  by_cases h : a = 0
  · by_cases h2 : b = 0
    · by_cases h3 : c = 0
      · by_cases h4 : d = 0
        · simp only [h, h2, h3, h4, if_true]; rfl
        · simp only [h, h2, h3, h4, if_true, if_false]; rfl
      · simp only [h, h2, h3, if_true, if_false]; rfl
    · simp only [h, h2, if_true, if_false]; rfl
  · simp only [h, if_false]; rfl
theorem bestFault_E {l : List TChord} {cf : Int} (hcf : m_gleeref2_ChordsFault l 12 = some cf) (rs : List TRange) (leap : Int) : m_chord_bestFault l rs leap = some (faultB l cf rs leap) := by
  unfold m_chord_bestFault faultB
  unfold m_gleeref2_ChordsFault at hcf
  by_cases h0 : l.length = 0
  · rw [if_pos h0, show ((l.length : Int) == 0) = true by simp [h0]]; rfl
  · rw [if_neg h0, show ((l.length : Int) == 0) = false by simpa using h0, ifB_false]
    by_cases h12 : (l.length : Int) > 12
    · rw [decide_eq_true h12, ifB_true] at hcf
      have := Option.some.inj hcf
      rw [decide_eq_true h12, ifB_true, if_neg (by omega), this]
    · rw [decide_eq_false h12, ifB_false] at hcf
      rw [decide_eq_false h12, ifB_false, checkAll_eq, hcf, Option.bind_some]
      by_cases hc0 : cf = 0
      · rw [if_pos hc0, show (cf != 0) = false by simpa using hc0, ifB_false, rangesFault_E, Option.bind_some]
        by_cases hr : rangesF rs = 0
        · rw [if_pos hr, show (rangesF rs != 0) = false by simpa using hr, ifB_false, Outside_spec, Option.bind_some]
          unfold leapF
          by_cases hl : 0 ≤ leap ∧ leap ≤ 24
          · rw [decide_eq_true hl, if_pos hl]; rfl
          · rw [decide_eq_false hl, if_neg hl]; rfl
        · rw [if_neg hr, show (rangesF rs != 0) = true by simpa using hr, ifB_true]
      · rw [if_neg hc0, show (cf != 0) = true by simpa using hc0, ifB_true]
/-! ### the rows of all chords -/
noncomputable def RW (rs : List TRange) (c : TChord) : List (List Int) := dfs ((m_chord_tones c).getD []) rs []
theorem CT_of {c : TChord} (h : ∃ r k t, Right c r k t) : CT c ((m_chord_tones c).getD []) := by
  obtain ⟨T, h1, h2, h3, h4⟩ := right_pos h
  have e : (m_chord_tones c).getD [] = T := by rw [h1]; rfl
  rw [e]
  exact ⟨h1, h2, h3, h4⟩
theorem p_rows {rs : List TRange} (hr : RR rs) : ∀ (t : List TChord) (i : Nat) (acc : List (List (List Int))), (∀ c ∈ t, ∃ r k t, Right c r k t) → acc.length + t.length ≤ 1000 →
    rangeM (m_chord_Best_l1 rs) i t acc = some (if (t.any fun c => decide ((RW rs c).length > 1000)) = true then .ret ([], 0, false, 12) else .brk (acc ++ t.map (RW rs)))
  | [], i, acc, _, _ => by simp [rangeM]
  | c :: t, i, acc, hc, hl => by
    rw [List.length_cons] at hl
    have hrl := hr.len
    have hct := CT_of (hc c (List.mem_cons_self ..))
    have hfind : m_chord_finder_find FUEL c.Root c.Kind c.Turn rs ((m_chord_tones c).getD []) [] [] = some ((RW rs c).take 1001) := by
      have := find_spec hct hr rs [] (99999 - rs.length) [] rfl (by simp) (by simp) (by simp)
      rw [show rs.length + 1 + (99999 - rs.length) = 100000 by omega, List.nil_append] at this
      unfold FUEL
      exact this
    have hm : makeM 8 (0 : Int) (rs.length : Int) = some (List.replicate rs.length 0) := by
      unfold makeM
      rw [if_pos (by unfold maxLen; omega)]
      simp
    have hstep : m_chord_Best_l1 rs i c acc = some (if (RW rs c).length > 1000 then .ret ([], 0, false, 12) else .nxt (acc ++ [RW rs c])) := by
      unfold m_chord_Best_l1
      rw [hct.tones, Option.bind_some, hm, Option.bind_some, hfind, Option.bind_some]
      by_cases hb : (RW rs c).length > 1000
      · rw [if_pos hb, decide_eq_true (by rw [List.length_take]; omega), ifB_true]
      · rw [if_neg hb, decide_eq_false (by rw [List.length_take]; omega), ifB_false, List.take_of_length_le (by omega), appM_of (by simp; omega) (by omega), Option.bind_some]
    rw [rangeM_cons, hstep, List.any_cons]
    by_cases hb : (RW rs c).length > 1000
    · rw [if_pos hb, decide_eq_true hb, Bool.true_or, if_pos rfl]; rfl
    · rw [if_neg hb, decide_eq_false hb, Bool.false_or, Option.bind_some, run_nxt, p_rows hr t (i + 1) _ (fun x hx => hc x (List.mem_cons_of_mem _ hx)) (by rw [List.length_append, List.length_singleton]; omega), List.map_cons, List.append_assoc]
      rfl
theorem r_rows {rs : List TRange} (hr : RR rs) : ∀ (t : List TChord) (i : Nat) (acc : List (List (List Int))), (∀ c ∈ t, ∃ r k t, Right c r k t) → acc.length + t.length ≤ 1000 →
    rangeM (m_gleeref2_BestVoices_l1 rs) i t acc = some (if (t.any fun c => decide ((RW rs c).length > 1000)) = true then .ret ([], 0, false, 12) else .brk (acc ++ t.map (RW rs)))
  | [], i, acc, _, _ => by simp [rangeM]
  | c :: t, i, acc, hc, hl => by
    rw [List.length_cons] at hl
    have hct := CT_of (hc c (List.mem_cons_self ..))
    have hstep : m_gleeref2_BestVoices_l1 rs i c acc = some (if (RW rs c).length > 1000 then .ret ([], 0, false, 12) else .nxt (acc ++ [RW rs c])) := by
      unfold m_gleeref2_BestVoices_l1
      have hrf : m_gleeref2_rowsFor c rs = some (RW rs c) := rowsFor_spec hct hr
      rw [hrf, Option.bind_some, appM_of (by simp; omega) (by omega), Option.bind_some, List.length_append, List.length_singleton, w64_id (by omega), getI_of (n := acc.length) (x := RW rs c) (by omega) (by simp), Option.bind_some]
      by_cases hb : (RW rs c).length > 1000
      · rw [if_pos hb, decide_eq_true (by omega), ifB_true]
      · rw [if_neg hb, decide_eq_false (by omega), ifB_false]
    rw [rangeM_cons, hstep, List.any_cons]
    by_cases hb : (RW rs c).length > 1000
    · rw [if_pos hb, decide_eq_true hb, Bool.true_or, if_pos rfl]; rfl
    · rw [if_neg hb, decide_eq_false hb, Bool.false_or, Option.bind_some, run_nxt, r_rows hr t (i + 1) _ (fun x hx => hc x (List.mem_cons_of_mem _ hx)) (by rw [List.length_append, List.length_singleton]; omega), List.map_cons, List.append_assoc]
      rfl
/-! ### both -/
theorem Best_same {l : List TChord} (h1 : 1 ≤ l.length) (h12 : l.length ≤ 12) (hc : ∀ c ∈ l, ∃ r k t, Right c r k t) {rs : List TRange} (hr : RR rs) {leap : Int} (hlp : 0 ≤ leap ∧ leap ≤ 24) (hbf : m_chord_bestFault l rs leap = some 0) :
    ∃ v s b e, m_chord_Best l rs leap = some (v, s, b, e) ∧ m_gleeref2_BestVoices l rs leap = some (v, s, b, e) := by
  have hrl := hr.len
  unfold m_chord_Best m_gleeref2_BestVoices
  rw [hbf, Option.bind_some, show ((0 : Int) != 0) = false from rfl, ifB_false, p_rows hr l 0 [] hc (by simp; omega), r_rows hr l 0 [] hc (by simp; omega), Option.bind_some, Option.bind_some]
  by_cases hbig : (l.any fun c => decide ((RW rs c).length > 1000)) = true
  · rw [if_pos hbig]
    exact ⟨[], 0, false, 12, rfl, rfl⟩
  · rw [if_neg hbig]
    simp only [fin_brk, List.nil_append]
    have hfew : ∀ c ∈ l, (RW rs c).length ≤ 1000 := fun c hcm => by
      have : ¬ (RW rs c).length > 1000 := fun h => hbig (List.any_eq_true.2 ⟨c, hcm, decide_eq_true h⟩)
      omega
    have hR : RsOK rs.length (l.map (RW rs)) := ⟨hrl.2, by rw [List.length_map]; exact h12, fun r hrm v hv => by
      obtain ⟨c, -, rfl⟩ := List.mem_map.1 hrm
      exact (dfs_ok hr hv).1, fun r hrm => by
      obtain ⟨c, hcm, rfl⟩ := List.mem_map.1 hrm
      exact hfew c hcm⟩
    have hA : RsA (l.map (RW rs)) := ⟨fun r hrm v hv => by
      obtain ⟨c, -, rfl⟩ := List.mem_map.1 hrm
      exact (dfs_ok hr hv).2⟩
    have hlR : l.length = (l.map (RW rs)).length := by rw [List.length_map]
    generalize hRR : l.map (RW rs) = R at hR hA hlR
    obtain ⟨R0, Rs, rfl⟩ : ∃ R0 Rs, R = R0 :: Rs := by
      cases R with
      | nil => rw [List.length_nil] at hlR; omega
      | cons R0 Rs => exact ⟨R0, Rs, rfl⟩
    have hm : makeM 24 ([] : List Int) (l.length : Int) = some (List.replicate l.length []) := by
      unfold makeM
      rw [if_pos (by unfold maxLen; omega)]
      simp
    have hloop := r_loop hrl.1 hlp (l := l) hR hA hlR (R0 :: Rs).length (Nat.le_refl _)
    rw [List.drop_length, show costs leap [] = [] from rfl, show nexts leap [] = [] from rfl, List.append_nil, ← hlR] at hloop
    have hC0 : getI (costs leap (R0 :: Rs)) 0 = some ((headT leap (R0 :: Rs)).map Prod.fst) := by
      refine getI_of (i := 0) (n := 0) rfl ?_
      unfold costs
      rw [List.getElem?_map, tabs_at leap (i := 0) (R := R0 :: Rs) rfl]; rfl
    have hbd := costs_bd (leap := leap) hR _ (List.mem_of_getElem? (getI_spec hC0).2)
    have hfw0 := hR.few R0 (List.mem_cons_self ..)
    have hhl := headT_len leap R0 Rs
    obtain ⟨f, f1, f2, f3⟩ := first_E (costs leap (R0 :: Rs)) (-1) (nexts leap (R0 :: Rs)) _ hC0 (fun c hcm => (hbd c hcm).1) (by rw [List.length_map, hhl]; omega)
    rw [rests_spec hR (by rw [List.length_cons]; omega), Option.bind_some, hC0, Option.bind_some, f1, Option.bind_some, fin_brk, hm, Option.bind_some, Option.bind_some, w64_id (n := (l.length : Int) - 1) (by omega), hloop, Option.bind_some, fin_brk]
    simp only []
    rw [hC0, Option.bind_some, f2, Option.bind_some, fin_brk]
    rcases f3 with rfl | ⟨j, rfl, c, hj, hcj⟩
    · exact ⟨[], 0, false, 0, rfl, rfl⟩
    · have hjl : j < R0.length := by
        have := (List.getElem?_eq_some_iff.1 hj).1
        rw [List.length_map, hhl] at this
        exact this
      have hcn : (nthP (headT leap (R0 :: Rs)) j).1 = c := by
        rw [List.getElem?_map, nthP_get (by rw [hhl]; exact hjl), Option.map_some] at hj
        exact Option.some.inj hj
      obtain ⟨z1, z2, p1⟩ := p_path (leap := leap) hlR hR Rs R0 0 j [] rfl hjl (by rw [hcn]; exact hcj) (by have := hR.len; rw [List.length_cons] at this; simp; omega)
      obtain ⟨z3, z4, p2⟩ := r_path (leap := leap) hlR (by have := hR.len; omega) (a := -1) (C := costs leap (R0 :: Rs)) (R0 :: Rs) 0 j [] rfl (Nat.zero_le _) (fun R0' Rs' he => by
        cases he
        exact ⟨hjl, by rw [hcn]; exact hcj⟩) (by have := hR.len; simp only [List.length_nil]; omega) (fun _ => trivial)
      rw [hcn, List.nil_append, List.nil_append] at p1
      rw [List.nil_append] at p2
      have p1' : loopM (m_chord_Best_l3 l leap (R0 :: Rs) (costs leap (R0 :: Rs))) (1, c, [nthR R0 j]) = some (.brk (z1, z2, pth leap (R0 :: Rs) j)) := p1
      have p2' : loopM (m_gleeref2_BestVoices_l7 l (R0 :: Rs) (-1, costs leap (R0 :: Rs), nexts leap (R0 :: Rs))) (0, (j : Int), []) = some (.brk (z3, z4, pth leap (R0 :: Rs) j)) := p2
      rw [show ((j : Int) == -1) = false by simp, decide_eq_false (show ¬ (j : Int) < 0 by omega)]
      simp only [ifB_false, hC0, Option.bind_some, getI_of (i := 0) (n := 0) (xs := R0 :: Rs) rfl rfl, getI_of (n := j) rfl (nthR_get hjl), getI_of (n := j) rfl hj, p1', p2', fin_brk]
      exact ⟨_, _, _, _, rfl, rfl⟩
/-! ### what is drawn -/
theorem Ranges_spec (L : List Int) {p : Int} (hp : 0 ≤ p) (hp' : p ≤ 900000000) : ∃ rs q, m_gleemake_Stream_Ranges L p = some (rs, q) ∧ p ≤ q ∧ q ≤ p + 100 := by
  unfold m_gleemake_Stream_Ranges
  obtain ⟨n, h1, h2, h3⟩ := Range_spec L (p := p) (a := 1) (b := 4) hp (by omega) (by omega) (by omega) (by omega)
  rw [h1, Option.bind_some]
  simp only
  rw [sliceI_of (xs := [45, 52, 59, 64]) (lo := 0) (hi := n) (a := 0) (b := n.toNat) rfl (by omega) (by omega) (by simp; omega), Option.bind_some]
  have hlen : (([45, 52, 59, 64] : List Int).drop 0 |>.take (n.toNat - 0)).length = n.toNat := by simp; omega
  generalize (([45, 52, 59, 64] : List Int).drop 0 |>.take (n.toNat - 0)) = xs at hlen
  obtain ⟨⟨p1, out⟩, g1, g2, g3, g4⟩ := rangeM_invx (m_gleemake_Stream_Ranges_l1 L) xs (fun i s => p + 1 ≤ s.1 ∧ s.1 ≤ p + 1 + 2 * i ∧ s.2.length = i) (by
    rintro i x ⟨r, o⟩ hx ⟨a1, a2, a3⟩
    have hi := (List.getElem?_eq_some_iff.1 hx).1
    simp only at a1 a2 a3
    unfold m_gleemake_Stream_Ranges_l1
    obtain ⟨v, k1, -⟩ := Range_spec L (p := r) (a := -2) (b := 2) (by omega) (by omega) (by omega) (by omega) (by omega)
    obtain ⟨w, k2, -⟩ := Pick_spec L (p := r + 1) [7, 9, 11, 12] (by omega) (by omega) (by simp) (by simp)
    simp only
    rw [k1, Option.bind_some]
    simp only
    rw [k2, Option.bind_some, appM_of (by simp; omega) (by omega), Option.bind_some]
    exact ⟨_, rfl, by simp only; omega, by simp only; omega, by simp; omega⟩) (p + 1, []) ⟨by simp, by simp, by simp⟩
  simp only at g2 g3 g4
  rw [g1, Option.bind_some, fin_brk]
  simp only
  obtain ⟨f, hf⟩ := Flip_spec L (p := p1) (n := 20) (by omega) (by omega) (by omega)
  rw [hf, Option.bind_some]
  simp only
  cases f with
  | false => exact ⟨_, _, rfl, by omega, by omega⟩
  | true =>
    obtain ⟨i, k1, k2, k3⟩ := Next_spec L (p := p1 + 1) (n := out.length) (by omega) (by omega) (by omega)
    have k3 := k3 (by omega)
    obtain ⟨a, q1, k4, k5, k6⟩ := Odd_specH L (p := p1 + 1 + 1) (a := 0) (b := 60) (by omega) (by omega) (by omega) (by omega) (by omega)
    obtain ⟨b, q2, k7, k8, k9⟩ := Odd_specH L (p := q1) (a := 0) (b := 127) (by omega) (by omega) (by omega) (by omega) (by omega)
    rw [ifB_true, k1, Option.bind_some]
    simp only
    rw [getI_of (n := i.toNat) (by omega) (List.getElem?_eq_getElem (by omega)), Option.bind_some, k4, Option.bind_some]
    simp only
    rw [k7, Option.bind_some]
    exact ⟨_, _, rfl, by simp only; omega, by simp only; omega⟩
theorem WideRanges_spec (L : List Int) {p : Int} (hp : 0 ≤ p) (hp' : p ≤ 900000000) : ∃ rs q, m_gleemake_Stream_WideRanges L p = some (rs, q) := by
  unfold m_gleemake_Stream_WideRanges
  obtain ⟨n, h1, h2, h3⟩ := Range_spec L (p := p) (a := 4) (b := 5) hp (by omega) (by omega) (by omega) (by omega)
  rw [h1, Option.bind_some]
  simp only
  rw [rangeI_of (by omega), Option.bind_some]
  obtain ⟨⟨p1, out⟩, g1, g2, g3, g4⟩ := rangeM_invx (m_gleemake_Stream_WideRanges_l1 L) (List.range n.toNat) (fun i s => p + 1 ≤ s.1 ∧ s.1 ≤ p + 1 + 2 * i ∧ s.2.length = i) (by
    rintro i x ⟨r, o⟩ hx ⟨a1, a2, a3⟩
    have hi : i < n.toNat := by have := (List.getElem?_eq_some_iff.1 hx).1; simpa using this
    simp only at a1 a2 a3
    unfold m_gleemake_Stream_WideRanges_l1
    obtain ⟨v, k1, -⟩ := Range_spec L (p := r) (a := 18) (b := 24) (by omega) (by omega) (by omega) (by omega) (by omega)
    simp only
    rw [k1, Option.bind_some, appM_of (by simp; omega) (by omega), Option.bind_some]
    exact ⟨_, rfl, by simp only; omega, by simp only; omega, by simp; omega⟩) (p + 1, []) ⟨by simp, by simp, by simp⟩
  rw [g1, Option.bind_some, fin_brk]
  exact ⟨_, _, rfl⟩
theorem EqualII_refl (xs : List (List Int)) : m_slices_EqualFunc_int_int_int_int__slices_Equal_int_int xs xs = some true := by
  unfold m_slices_EqualFunc_int_int_int_int__slices_Equal_int_int
  rw [show ((xs.length : Int) != (xs.length : Int)) = false by simp, ifB_false]
  obtain ⟨s, h1, -⟩ := rangeM_invx (m_slices_EqualFunc_int_int_int_int__slices_Equal_int_int_l1 xs) xs (fun _ _ => True) (fun i x s hx _ => ⟨(), by
    unfold m_slices_EqualFunc_int_int_int_int__slices_Equal_int_int_l1
    rw [getI_of rfl hx, Option.bind_some, EqualInt_spec, decide_eq_true rfl]; rfl, trivial⟩) () trivial
  rw [h1]; rfl
/-- THE LAW: at every seed the answer is true. -/
theorem VoicesBest_true (L : List Int) : m_gleelaw2_VoicesBest L = some true := by
  unfold m_gleelaw2_VoicesBest
  obtain ⟨many, h1, h2, h3⟩ := Range_spec L (p := 0) (a := 0) (b := 4) (by omega) (by omega) (by omega) (by omega) (by omega)
  obtain ⟨c0, q1, h4, h5, h6⟩ := Chords_spec L (q := 0 + 1) (many := many) (by omega) (by omega) h2 (by omega)
  obtain ⟨r0, q2, h7, h8, h9⟩ := Ranges_spec L (p := q1) (by omega) (by omega)
  obtain ⟨leap, h10, -⟩ := Pick_spec L (p := q2) [2, 4, 5, 7, 12, 24, 0, (-1), 25] (by omega) (by omega) (by simp) (by simp)
  obtain ⟨b, hb⟩ := Flip_spec L (p := q2 + 1) (n := 2) (by omega) (by omega) (by omega)
  obtain ⟨b2, hb2⟩ := Flip_spec L (p := q2 + 1 + 1) (n := 25) (by omega) (by omega) (by omega)
  rw [h1, Option.bind_some]
  simp only
  rw [h4, Option.bind_some]
  simp only
  rw [h7, Option.bind_some]
  simp only
  unfold m_gleemake_Stream_Leap
  rw [h10, Option.bind_some, Option.bind_some]
  simp only
  rw [hb, Option.bind_some]
  simp only
  obtain ⟨c1, hc1⟩ : ∃ c1, (ifB b ((rangeM m_gleelaw2_VoicesBest_l1 0 c0 c0).bind fun f19 => Flow.fin f19 fun u16 => some (.inl u16)) (some (.inl c0)) : Option ((List TChord) ⊕ Bool)) = some (.inl c1) := by
    cases b with
    | false => exact ⟨_, rfl⟩
    | true =>
      obtain ⟨s, g1, -⟩ := rangeM_invx m_gleelaw2_VoicesBest_l1 c0 (fun i s => s.length = c0.length) (by
        rintro i x s hx hs
        have hi := (List.getElem?_eq_some_iff.1 hx).1
        unfold m_gleelaw2_VoicesBest_l1
        rw [getI_of (n := i) rfl (List.getElem?_eq_getElem (by omega)), Option.bind_some, Option.bind_some]
        exact ⟨_, rfl, by rw [List.length_set]; exact hs⟩) c0 rfl
      rw [ifB_true, g1]
      exact ⟨_, rfl⟩
  rw [hc1, Option.bind_some, fin_inl, hb2, Option.bind_some]
  simp only
  obtain ⟨l, rs, hlr⟩ : ∃ l rs, (ifB b2 ((sliceI c1 0 (min (c1.length : Int) 1)).bind fun q30 => (m_gleemake_Stream_WideRanges L (q2 + 1 + 1 + 1)).bind fun y31 => some (.inl (q30, y31.1))) (some (.inl (c1, r0))) : Option (((List TChord) × (List TRange)) ⊕ Bool)) = some (.inl (l, rs)) := by
    cases b2 with
    | false => exact ⟨_, _, rfl⟩
    | true =>
      obtain ⟨rs, q, g1⟩ := WideRanges_spec L (p := q2 + 1 + 1 + 1) (by omega) (by omega)
      rw [ifB_true, sliceI_of (xs := c1) (lo := 0) (hi := min (c1.length : Int) 1) (a := 0) (b := min c1.length 1) rfl (by omega) (by omega) (by omega), Option.bind_some, g1]
      exact ⟨_, _, rfl⟩
  rw [hlr, Option.bind_some, fin_inl]
  simp only
  obtain ⟨cf, hcf, hcr⟩ := ChordsFault_total l 12
  have hbf := bestFault_E hcf rs leap
  rw [when_eq, hcf, RangesFault_E, leapFault_E]
  simp only [errs4, Option.bind_some]
  have hF : (if (if ((l.length : Int) == 0) = true then (8 : Int) else 0) = 0 then if cf = 0 then if rangesF rs = 0 then leapF leap else rangesF rs else cf else if ((l.length : Int) == 0) = true then 8 else 0) = faultB l cf rs leap := by
    unfold faultB
    by_cases h0 : l.length = 0
    · rw [if_pos h0, show ((l.length : Int) == 0) = true by simp [h0]]; rfl
    · rw [if_neg h0, show ((l.length : Int) == 0) = false by simpa using h0]; rfl
  rw [hF]
  by_cases h0 : faultB l cf rs leap = 0
  · have hz := h0
    unfold faultB at hz
    by_cases hl0 : l.length = 0
    · rw [if_pos hl0] at hz; omega
    · rw [if_neg hl0] at hz
      by_cases hc0 : cf = 0
      · rw [if_pos hc0] at hz
        by_cases hr0 : rangesF rs = 0
        · rw [if_pos hr0] at hz
          have hlp : 0 ≤ leap ∧ leap ≤ 24 := by
            unfold leapF at hz
            by_cases h : 0 ≤ leap ∧ leap ≤ 24
            · exact h
            · rw [if_neg h] at hz; omega
          have h12 : l.length ≤ 12 := by
            unfold m_gleeref2_ChordsFault at hcf
            by_cases h : (l.length : Int) > 12
            · rw [decide_eq_true h, ifB_true] at hcf
              have := Option.some.inj hcf
              omega
            · omega
          rw [h0] at hbf
          obtain ⟨v, s, ok, e, g1, g2⟩ := Best_same (by omega) h12 (hcr hc0) (rangesF_zero hr0) hlp hbf
          rw [g1, Option.bind_some, h0, show ((0 : Int) == 0) = true from rfl, ifB_true, g2, Option.bind_some, Option.bind_some, fin_inl]
          simp only
          rw [show (e == e) = true by simp, ifB_true, EqualII_refl, Option.bind_some, ifB_true, show (s == s) = true by simp, ifB_true, show (ok == ok) = true by simp, ifB_true, sounded_true]
          rfl
        · rw [if_neg hr0] at hz; omega
      · rw [if_neg hc0] at hz; omega
  · have hB : m_chord_Best l rs leap = some ([], 0, false, faultB l cf rs leap) := by
      unfold m_chord_Best
      rw [hbf, Option.bind_some, show (faultB l cf rs leap != 0) = true by simpa using h0, ifB_true]
    rw [hB, Option.bind_some, show (faultB l cf rs leap == 0) = false by simpa using h0, ifB_false, Option.bind_some, fin_inl]
    simp only
    rw [show (faultB l cf rs leap == faultB l cf rs leap) = true by simp, ifB_true, EqualII_refl, Option.bind_some, ifB_true, show ((0 : Int) == 0) = true from rfl, ifB_true, show (false == false) = true from rfl, ifB_true, sounded_true]
    rfl
end Go.G
