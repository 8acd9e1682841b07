/- LVm: BestVoicesFit. In plain Lean, no program in sight. -/
import Derived.Test.YthonhgainmokhacGreatDoorLVl
import Derived.Test.YthonhgainmokhacGreatDoorLR1g
namespace Go.G
open Go Go.J
set_option linter.unusedSimpArgs false
set_option linter.unusedVariables false
theorem Fits_of {l : List TChord} {rs : List TRange} (hr : RR rs) {c : TChord} (hc : ∃ r k t, Right c r k t) {row : List Int} (h : row ∈ RW rs c) : m_chord_Fits c row = some (true, 0) := by
 obtain ⟨g1, g2, g3, -⟩ := RW_ok hr h
 have hrl := hr.len
 have hl := g1.len
 have hct := CT_of hc
 unfold m_chord_Fits
 rw [CheckChord_eq, Right_fault hc, Option.bind_some, show ((0 : Int) != 0) = false from rfl, ifB_false, notesFault_E, Option.bind_some, if_neg (by omega), if_neg (by omega), if_neg (by
  rw [List.any_eq_true]
  rintro ⟨x, hx, h2⟩
  have := g1.notes x hx
  rw [decide_eq_true this] at h2
  cases h2), show ((0 : Int) != 0) = false from rfl, ifB_false, fits_E hct (by omega) (by omega), Option.bind_some, g3]
theorem fit_l2_first (rs : List TRange) (v : List (List Int)) (y5 : Int) (y14 : Int × Bool × Int) : ∀ (t : List Int) (pr rt : List TRange) (u : Int), rs = pr ++ rt → inRng rt t → rangeM (m_gleekeep2_BestVoicesFit_l2 (rs, y5) (v, y14) 0) pr.length t u = some (.brk u)
 | [], pr, rt, u, _, _ => rfl
 | x :: t, pr, [], u, _, h => absurd h id
 | x :: t, pr, r :: rt, u, e, h => by
  have hstep : m_gleekeep2_BestVoicesFit_l2 (rs, y5) (v, y14) 0 pr.length x u = some (.nxt u) := by
   unfold m_gleekeep2_BestVoicesFit_l2
   simp only
   rw [e, getPre, Option.bind_some, decide_eq_false (by have := h.1; omega), ifB_false, Option.bind_some, decide_eq_false (by have := h.2.1; omega), ifB_false, decide_eq_false (by omega), ifB_false]
  rw [rangeM_cons, hstep, Option.bind_some, run_nxt]
  have := fit_l2_first rs v y5 y14 t (pr ++ [r]) rt u (by rw [e, List.append_assoc]; rfl) h.2.2
  rw [List.length_append, List.length_singleton] at this
  exact this
theorem fit_l2 (rs : List TRange) (v : List (List Int)) (y5 : Int) (y14 : Int × Bool × Int) {i : Nat} (hi : i ≤ 1000) {w : List Int} (hw : v[i]? = some w) (hwn : ∀ x ∈ w, 0 ≤ x ∧ x ≤ 127) : ∀ (t wt pw : List Int) (pr rt : List TRange) (u : Int), rs = pr ++ rt → w = pw ++ wt → pw.length = pr.length → wt.length = t.length → inRng rt t → (∀ x ∈ t, 0 ≤ x ∧ x ≤ 127) → 0 ≤ u → u + 127 * t.length ≤ 1000000 →
  rangeM (m_gleekeep2_BestVoicesFit_l2 (rs, y5) (v, y14) (i + 1)) pr.length t u = some (.brk (u + mvS wt t))
 | [], [], pw, pr, rt, u, _, _, _, _, _, _, _, _ => by
  rw [show mvS [] [] = 0 from rfl, Int.add_zero]; rfl
 | [], b :: wt, pw, pr, rt, u, _, _, _, hl, _, _, _, _ => by simp at hl
 | x :: t, [], pw, pr, rt, u, _, _, _, hl, _, _, _, _ => by simp at hl
 | x :: t, b :: wt, pw, pr, [], u, _, _, _, _, h, _, _, _ => absurd h id
 | x :: t, b :: wt, pw, pr, r :: rt, u, e, ew, hpl, hl, h, hn, h0, hN => by
  have hx := hn x (List.mem_cons_self ..)
  have hb := hwn b (by rw [ew]; simp)
  have hs := szI_le (x := x - b) (by omega)
  rw [List.length_cons] at hN
  have hgb : getI w (pr.length : Int) = some b := by rw [ew, ← hpl, getPre]
  have hgw : getI v (w64 (((i + 1 : Nat) : Int) - 1)) = some w := by rw [w64_id (by omega)]; exact getI_of (n := i) (by omega) hw
  have hstep : m_gleekeep2_BestVoicesFit_l2 (rs, y5) (v, y14) (i + 1) pr.length x u = some (.nxt (u + szI (x - b))) := by
   unfold m_gleekeep2_BestVoicesFit_l2
   simp only
   rw [e, getPre, Option.bind_some, decide_eq_false (by have := h.1; omega), ifB_false, Option.bind_some, decide_eq_false (by have := h.2.1; omega), ifB_false, decide_eq_true (by omega), ifB_true, hgw, Option.bind_some, hgb, Option.bind_some, Option.bind_some, hgb, Option.bind_some, w64_id (n := x - b) (by omega), w64_id (n := b - x) (by omega)]
   have e : max (x - b) (b - x) = szI (x - b) := by unfold szI; omega
   rw [e, w64_id (by omega)]
  rw [rangeM_cons, hstep, Option.bind_some, run_nxt]
  have := fit_l2 rs v y5 y14 hi hw hwn t wt (pw ++ [b]) (pr ++ [r]) rt (u + szI (x - b)) (by rw [e, List.append_assoc]; rfl) (by rw [ew, List.append_assoc]; rfl) (by simp [hpl]) (by simpa using hl) h.2.2 (fun y hy => hn y (List.mem_cons_of_mem _ hy)) (by omega) (by omega)
  rw [List.length_append, List.length_singleton] at this
  rw [this, show mvS (b :: wt) (x :: t) = szI (x - b) + mvS wt t from rfl, Int.add_assoc]
theorem fit_l1 {l : List TChord} {rs : List TRange} (hr : RR rs) (hc : ∀ c ∈ l, ∃ r k t, Right c r k t) {leap : Int} {v : List (List Int)} (hw : ways l rs leap v) (h12 : l.length ≤ 12) (y3 y5 : Int) (y14 : Int × Bool × Int) :
  ∀ (t : List (List Int)) (pre : List (List Int)) (w : List Int) (u : Int), v = pre ++ w :: t → 0 ≤ u → u + 635 * t.length ≤ 900000 → rangeM (m_gleekeep2_BestVoicesFit_l1 (l, y3) (rs, y5) (v, y14)) (pre.length + 1) t u = some (.brk (u + mvT (w :: t)))
 | [], pre, w, u, _, _, _ => by
  rw [show mvT [w] = 0 from rfl, Int.add_zero]; rfl
 | x :: t, pre, w, u, e, h0, hN => by
  rw [List.length_cons] at hN
  have hrl := hr.len
  have hlv := inRs_len _ _ hw.1
  rw [List.length_map] at hlv
  have hlp : pre.length + 2 ≤ v.length := by rw [e]; simp
  have hx : v[pre.length + 1]? = some x := by rw [e, List.getElem?_append_right (by omega), Nat.add_sub_cancel_left]; rfl
  have hw0 : v[pre.length]? = some w := by rw [e, List.getElem?_append_right (by omega), Nat.sub_self]; rfl
  obtain ⟨c, hci, hxc⟩ := ways_row hw hx
  obtain ⟨g1, -, -, g4⟩ := RW_ok hr hxc
  have hwo := (ways_mem hw hr (List.mem_of_getElem? hw0)).1
  have hmb := mvS_bd w x hwo.notes g1.notes
  have hxl := g1.len
  have hwl := hwo.len
  have hstep : m_gleekeep2_BestVoicesFit_l1 (l, y3) (rs, y5) (v, y14) (pre.length + 1) x u = some (.nxt (u + mvS w x)) := by
   unfold m_gleekeep2_BestVoicesFit_l1
   simp only
   rw [getI_of (n := pre.length + 1) rfl hci, Option.bind_some, Fits_of (l := l) hr (hc c (List.mem_of_getElem? hci)) hxc, Option.bind_some]
   simp only
   rw [show ((0 : Int) != 0) = false from rfl, ifB_false, show (!true) = false from rfl, ifB_false, show ((x.length : Int) != (rs.length : Int)) = false by rw [hxl]; simp, Option.bind_some, fin_inl, ifB_false]
   have h2 := fit_l2 rs v y5 y14 (i := pre.length) (by omega) hw0 hwo.notes x w [] [] rs u rfl rfl rfl (by omega) g4 g1.notes h0 (by omega)
   rw [List.length_nil] at h2
   rw [h2, Option.bind_some, fin_brk]
  rw [rangeM_cons, hstep, Option.bind_some, run_nxt]
  have := fit_l1 hr hc hw h12 y3 y5 y14 t (pre ++ [w]) x (u + mvS w x) (by rw [e, List.append_assoc]; rfl) (by omega) (by omega)
  rw [List.length_append, List.length_singleton] at this
  rw [this, show mvT (w :: x :: t) = mvS w x + mvT (x :: t) from rfl, Int.add_assoc]
theorem fit_all {l : List TChord} {rs : List TRange} (hr : RR rs) (hc : ∀ c ∈ l, ∃ r k t, Right c r k t) {leap : Int} {v : List (List Int)} (hw : ways l rs leap v) (h1 : 1 ≤ l.length) (h12 : l.length ≤ 12) (y3 y5 : Int) (y14 : Int × Bool × Int) :
  rangeM (m_gleekeep2_BestVoicesFit_l1 (l, y3) (rs, y5) (v, y14)) 0 v 0 = some (.brk (mvT v)) := by
 have hlv := inRs_len _ _ hw.1
 rw [List.length_map] at hlv
 obtain ⟨w, t, e⟩ : ∃ w t, v = w :: t := by
  cases v with
  | nil => rw [List.length_nil] at hlv; omega
  | cons w t => exact ⟨w, t, rfl⟩
 have hw0 : v[0]? = some w := by rw [e]; rfl
 obtain ⟨c, hci, hxc⟩ := ways_row hw hw0
 obtain ⟨g1, -, -, g4⟩ := RW_ok hr hxc
 have hxl := g1.len
 have hstep : m_gleekeep2_BestVoicesFit_l1 (l, y3) (rs, y5) (v, y14) 0 w 0 = some (.nxt 0) := by
  unfold m_gleekeep2_BestVoicesFit_l1
  simp only
  rw [getI_of (n := 0) rfl hci, Option.bind_some, Fits_of (l := l) hr (hc c (List.mem_of_getElem? hci)) hxc, Option.bind_some]
  simp only
  rw [show ((0 : Int) != 0) = false from rfl, ifB_false, show (!true) = false from rfl, ifB_false, show ((w.length : Int) != (rs.length : Int)) = false by rw [hxl]; simp, Option.bind_some, fin_inl, ifB_false]
  have h2 := fit_l2_first rs v y5 y14 w [] rs 0 rfl g4
  rw [List.length_nil] at h2
  rw [h2, Option.bind_some, fin_brk]
 have := fit_l1 hr hc hw h12 y3 y5 y14 t [] w 0 e (Int.le_refl _) (by have := congrArg List.length e; rw [List.length_cons] at this; omega)
 rw [List.length_nil, Int.zero_add] at this
 have e2 : rangeM (m_gleekeep2_BestVoicesFit_l1 (l, y3) (rs, y5) (v, y14)) 0 v 0 = rangeM (m_gleekeep2_BestVoicesFit_l1 (l, y3) (rs, y5) (v, y14)) 0 (w :: t) 0 := by rw [← e]
 rw [e2, rangeM_cons, hstep, Option.bind_some, run_nxt, this, e]
theorem BestVoicesFit_true (L : List Int) : m_gleekeep2_BestVoicesFit L = some true := by
 unfold m_gleekeep2_BestVoicesFit
 obtain ⟨many, h1, h2, h3⟩ := Range_spec L (p := 0) (a := 1) (b := 3) (by omega) (by omega) (by omega) (by omega) (by omega)
 rw [h1, Option.bind_some]
 simp only
 obtain ⟨l, q1, h4, h5, h6, hlm⟩ := Chords_len L (q := 0 + 1) (many := many) (by omega) (by omega) (by omega) (by omega)
 rw [h4, Option.bind_some]
 simp only
 obtain ⟨rs, q2, h7, h8, h9⟩ := Ranges_spec L (p := q1) (by omega) (by omega)
 rw [h7, Option.bind_some]
 simp only
 obtain ⟨leap, h10, h11, h13⟩ := Range_spec L (p := q2) (a := 2) (b := 20) (by omega) (by omega) (by omega) (by omega) (by omega)
 rw [h10, Option.bind_some]
 simp only
 obtain ⟨cf, hcf, hcr⟩ := ChordsFault_total l 12
 rw [hcf, Option.bind_some]
 by_cases hc0 : cf = 0
 ·subst hc0
  rw [show ((0 : Int) != 0) = false from rfl, ifB_false, RangesFault_E, Option.bind_some, Option.bind_some, fin_inl]
  by_cases hr0 : rangesF rs = 0
  ·rw [hr0, show ((0 : Int) != 0) = false from rfl, ifB_false]
   have hr := rangesF_zero hr0
   have hc := hcr rfl
   have h12 : l.length ≤ 12 := by
    unfold m_gleeref2_ChordsFault at hcf
    by_cases h : (l.length : Int) > 12
    ·rw [decide_eq_true h, ifB_true] at hcf
     have := Option.some.inj hcf
     omega
    ·omega
   obtain ⟨d, g1, g2, g3⟩ := Range_spec L (p := q2 + 1) (a := 0) (b := 4) (by omega) (by omega) (by omega) (by omega) (by omega)
   have hl0 : ¬ l.length = 0 := by omega
   ·have hl1 : 1 ≤ l.length := by omega
    have hfb : ∀ x : Int, 0 ≤ x ∧ x ≤ 24 → m_chord_bestFault l rs x = some 0 := fun x hx => by
     rw [bestFault_E hcf]
     unfold faultB leapF
     rw [if_neg hl0, if_pos rfl, if_pos hr0, if_pos hx]
    have hB1 := Best_P hl1 h12 hc hr (leap := leap) (by omega) (hfb _ (by omega))
    have hB2 := Best_P hl1 h12 hc hr (leap := leap + d) (by omega) (hfb _ (by omega))
    rcases hB1 with ⟨hbig, b1⟩ | ⟨hbig, hB1⟩
    ·rcases hB2 with ⟨-, b2⟩ | ⟨hbig', -⟩
     ·rw [b1, Option.bind_some, g1, Option.bind_some, w64_id (by omega), b2, Option.bind_some]
      simp only
      rw [show ((12 : Int) != 0) = true from rfl, ifB_true, Option.bind_some, fin_inl, ifB_true, show ((12 : Int) == 12) = true from rfl, ifB_true, ifB_true, ready_true]
      rfl
     ·exact absurd hbig hbig'
    ·rcases hB2 with ⟨hbig', -⟩ | ⟨-, hB2⟩
     ·exact absurd hbig' hbig
     ·rcases hB1 with ⟨hno, b1⟩ | ⟨v, hv, b1, hmin⟩
      ·obtain ⟨v', s', o', b2⟩ : ∃ v' s' o', m_chord_Best l rs (leap + d) = some (v', s', o', 0) := by
        rcases hB2 with ⟨-, b2⟩ | ⟨v', -, b2, -⟩
        ·exact ⟨_, _, _, b2⟩
        ·exact ⟨_, _, _, b2⟩
       rw [b1, Option.bind_some, g1, Option.bind_some, w64_id (by omega), b2, Option.bind_some]
       simp only
       rw [show ((0 : Int) != 0) = false from rfl, ifB_false, Option.bind_some, fin_inl, ifB_false, show (!false) = true from rfl, ifB_true, show ((([] : List (List Int)).length : Int) == 0) = true from rfl, ifB_true, show ((0 : Int) == 0) = true from rfl, ifB_true, ready_true]
       rfl
      ·rcases hB2 with ⟨hno, -⟩ | ⟨v', hv', b2, hmin'⟩
       ·exact absurd (ways_mono (by omega) hv) (hno v)
       ·have hle := hmin' v (ways_mono (by omega) hv)
        have hlv := inRs_len _ _ hv.1
        rw [List.length_map] at hlv
        rw [b1, Option.bind_some, g1, Option.bind_some, w64_id (by omega), b2, Option.bind_some]
        simp only
        rw [show ((0 : Int) != 0) = false from rfl, ifB_false, Option.bind_some, fin_inl, ifB_false, show (!true) = false from rfl, ifB_false, Faults_spec (ways_RV hv hr h12) leap (by omega), Option.bind_some, ways_nofault hv hr]
        simp only
        rw [show ((0 : Int) != 0) = false from rfl, ifB_false, show ((([] : List TFault).length : Int) != 0) = false from rfl, ifB_false, show ((v.length : Int) != (l.length : Int)) = false by rw [hlv]; simp, ifB_false, ifB_false, decide_eq_false (by omega), Option.bind_some, fin_inl, ifB_false]
        have hf := fit_all hr hc hv hl1 h12 q1 q2 (mvT v, true, 0)
        rw [hf, Option.bind_some, fin_brk, show (mvT v == mvT v) = true by simp, ifB_true, ready_true]
        rfl
  ·rw [show (rangesF rs != 0) = true by simpa using hr0, ifB_true, ready_true]; rfl
 ·rw [show (cf != 0) = true by simpa using hc0, ifB_true, Option.bind_some, fin_inl, ifB_true, ready_true]; rfl
end Go.G
