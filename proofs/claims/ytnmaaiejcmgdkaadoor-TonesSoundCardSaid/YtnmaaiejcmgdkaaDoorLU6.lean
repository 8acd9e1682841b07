/- LU6: tones shifted, what sounds at a time, lyrics. No program in sight. -/
import Derived.Test.YtnmaaiejcmgdkaaDoorLU5
namespace Go.G
open Go Go.J
set_option linter.unusedSimpArgs false
/-! ### shifted -/
theorem shift_loops (a : Int) : ∀ (i : Nat) (x : TTone) (u : List TTone), m_gleeref2_ShiftOf_l1 a i x u = m_piece_Shift_l1 a i x u := by
  intro i x u
  unfold m_gleeref2_ShiftOf_l1 m_piece_Shift_l1
  simp only [Outside_spec, in_spec, Option.bind_some, Bool.not_not]
theorem Shift_loop (a : Int) (t : List TTone) : ∃ v : List TTone × Int, ((rangeM (m_piece_Shift_l1 a) 0 t t).bind fun f => Flow.fin f fun u => some (u, (0 : Int))) = some v := by
  obtain ⟨f, h1, h2⟩ := rangeM_stop (m_piece_Shift_l1 a) t (fun _ s => s.length = t.length) (fun f => ∃ v : List TTone × Int, (Flow.fin f fun u => some (u, (0 : Int))) = some v) (by
    intro i x s hx hs
    have hi : i < s.length := by rw [hs]; exact (List.getElem?_eq_some_iff.1 hx).1
    have hg : getI s (i : Int) = some s[i] := getI_of (n := i) rfl (List.getElem?_eq_getElem hi)
    unfold m_piece_Shift_l1
    simp only [hg, Option.bind_some]
    cases (s[i].Note == (-1)) with
    | true => exact ⟨_, rfl, fun s' e => by cases e; exact hs, fun _ e => (by cases e), fun _ e => (by cases e)⟩
    | false =>
      have hg2 : ∀ y, getI (s.set ((i : Int).toNat) y) (i : Int) = some y := fun y => getI_of (n := i) rfl (by simp [hi])
      simp only [ifB_false, hg2, Option.bind_some, Outside_spec]
      cases outB (w64 (s[i].Note + a)) 0 127 with
      | true => exact ⟨_, rfl, fun s' e => (by cases e), fun _ e => (by cases e), fun v e => by cases e; exact ⟨_, rfl⟩⟩
      | false => exact ⟨_, rfl, fun s' e => by cases e; simpa using hs, fun _ e => (by cases e), fun _ e => (by cases e)⟩) (fun s _ => ⟨_, rfl⟩) t rfl
  obtain ⟨v, hv⟩ := h2
  exact ⟨v, by rw [h1]; exact hv⟩
theorem Clone_spec (t : List TTone) (hl : t.length ≤ 1000000) : m_slices_Clone_api_Tone_api_Tone t = some t := by
  unfold m_slices_Clone_api_Tone_api_Tone
  rw [appM_of (by simp; omega) (by omega)]; rfl
theorem Shift_spec {bs : List TBar} {t : List TTone} {a : Int} (hl : t.length ≤ 1000000) (hk : m_piece_CheckTones bs t = some 0) : ∃ v, m_piece_Shift bs t a = some v ∧ m_gleeref2_ShiftOf t a = some v := by
  have e : m_gleeref2_ShiftOf_l1 a = m_piece_Shift_l1 a := by funext i x u; exact shift_loops a i x u
  unfold m_piece_Shift m_gleeref2_ShiftOf
  rw [hk]
  simp only [Option.bind_some, bne_self_eq_false, ifB_false, Outside_spec, in_spec, Bool.not_not, Clone_spec t hl, e]
  cases outB a (-127) 127 with
  | true => exact ⟨_, rfl, rfl⟩
  | false => exact (Shift_loop a t).imp fun v hv => ⟨hv, hv⟩
/-! ### what sounds -/
theorem sum_lB {bs : List TBar} (hb : ∀ x ∈ bs, bad x = false) : 0 ≤ (bs.map lB).sum ∧ (bs.map lB).sum ≤ 3072 * bs.length := by
  induction bs with
  | nil => simp
  | cons x t ih =>
    have h1 := ih fun y hy => hb y (List.mem_cons_of_mem _ hy)
    have h2 := long_spec (hb x (List.mem_cons_self ..))
    simp only [List.map_cons, List.sum_cons, List.length_cons]
    omega
theorem sounds_sum : ∀ (l : List TBar) (i : Nat) (s : Int), (∀ x ∈ l, bad x = false) → 0 ≤ s → s + 3072 * l.length ≤ 1000000000 →
    rangeM m_piece_Sounds_l1 i l s = some (.brk (s + (l.map lB).sum)) ∧ rangeM m_gleeref2_SoundsFault_l1 i l s = some (.brk (s + (l.map lB).sum)) := by
  intro l
  induction l with
  | nil => intro i s _ _ _; simp [rangeM]
  | cons x l ih =>
    intro i s hb h0 h1
    obtain ⟨h2, h3, h4, h5⟩ := long_spec (hb x (List.mem_cons_self ..))
    simp only [List.length_cons] at h1
    obtain ⟨i1, i2⟩ := ih (i + 1) (s + lB x) (fun y hy => hb y (List.mem_cons_of_mem _ hy)) (by omega) (by omega)
    have e1 : m_piece_Sounds_l1 i x s = some (.nxt (s + lB x)) := by unfold m_piece_Sounds_l1; rw [h2, Option.bind_some, w64_id (by omega)]
    have e2 : m_gleeref2_SoundsFault_l1 i x s = some (.nxt (s + lB x)) := by unfold m_gleeref2_SoundsFault_l1; rw [h3, Option.bind_some, w64_id (by omega)]
    simp only [List.map_cons, List.sum_cons]
    rw [rangeM_cons, e1, rangeM_cons, e2, ← Int.add_assoc]
    exact ⟨i1, i2⟩
def noteB (x : TTone) : Int × Bool := if x.Note = -1 then (0, false) else (x.Note, true)
theorem sounds_loop (f : TFraction) (u : Int) (hf : m_piece_units f = some u) (hu : 0 ≤ u ∧ u ≤ 10000000) : ∀ (t : List TTone) (i : Nat) (s : Int), (∀ x ∈ t, TGood x) → 0 ≤ s → s ≤ u →
    ∃ r : Int × Bool, ((rangeM (m_piece_Sounds_l2 f) i t s).bind fun g => Flow.fin g fun _ => some ((0 : Int), false, (0 : Int))) = some (r.1, r.2, 0) ∧
      ((rangeM m_gleeref2_SoundsOf_l1 i t (u - s)).bind fun g => Flow.fin g fun _ => some ((0 : Int), false)) = some r := by
  intro t
  induction t with
  | nil => intro i s _ _ _; exact ⟨(0, false), rfl, rfl⟩
  | cons x t ih =>
    intro i s hg h0 h1
    obtain ⟨h2, h3, h4, h5⟩ := units_spec (hg x (List.mem_cons_self ..))
    have hn := (hg x (List.mem_cons_self ..)).note
    have s1 : m_piece_Sounds_l2 f i x s = ifB (decide (u < s + uT x)) (some (.ret (max x.Note 0, x.Note != (-1), 0))) (some (.nxt (s + uT x))) := by
      unfold m_piece_Sounds_l2
      simp only [h2, hf, Option.bind_some]
      rw [w64_id (n := s + uT x) (by omega)]
    have s2 : m_gleeref2_SoundsOf_l1 i x (u - s) = ifB (decide (u - s - uT x < 0)) (ifB (x.Note == (-1)) (some (.ret (0, false))) (some (.ret (x.Note, true)))) (some (.nxt (u - s - uT x))) := by
      unfold m_gleeref2_SoundsOf_l1
      simp only [h3, Option.bind_some]
      rw [w64_id (n := u - s - uT x) (by omega)]
    rw [rangeM_cons, rangeM_cons, s1, s2]
    by_cases hc : u < s + uT x
    · have e1 : decide (u - s - uT x < 0) = true := by simp; omega
      simp only [decide_eq_true hc, e1, ifB_true, Option.bind_some]
      by_cases hm : x.Note = -1
      · refine ⟨(0, false), ?_, ?_⟩
        · rw [hm]; rfl
        · rw [hm]; rfl
      · have e2 : (x.Note == (-1)) = false := by simpa using hm
        have e3 : (x.Note != (-1)) = true := by simpa using hm
        refine ⟨(x.Note, true), ?_, ?_⟩
        · rw [e3, show max x.Note 0 = x.Note by omega]; rfl
        · rw [e2]; rfl
    · have e1 : decide (u - s - uT x < 0) = false := by simp; omega
      simp only [decide_eq_false hc, e1, ifB_false, Option.bind_some]
      have := ih (i + 1) (s + uT x) (fun y hy => hg y (List.mem_cons_of_mem _ hy)) (by omega) (by omega)
      rw [show u - s - uT x = u - (s + uT x) by omega]
      exact this
theorem units_f {f : TFraction} (hd : 1 ≤ f.Den) (h0 : 0 ≤ f.Num) (h1 : f.Num ≤ 1000000000) : m_piece_units f = some (uF f) ∧ m_gleeref2_units f = some (uF f) ∧ 0 ≤ uF f ∧ uF f ≤ 192 * f.Num ∧ ((192 : Int).tmod f.Den = 0 → f.Num ≤ uF f) := by
  have hq0 : 0 ≤ (192 : Int).tdiv f.Den := Int.tdiv_nonneg (by omega) (by omega)
  have hq1 : (192 : Int).tdiv f.Den ≤ 192 := by
    rw [Int.tdiv_eq_ediv_of_nonneg (by omega)]
    exact Int.ediv_le_self _ (by omega)
  have h2 : 0 ≤ f.Num * (192 : Int).tdiv f.Den := Int.mul_nonneg h0 hq0
  have h3 : f.Num * (192 : Int).tdiv f.Den ≤ f.Num * 192 := Int.mul_le_mul_of_nonneg_left hq1 h0
  refine ⟨?_, ?_, h2, by unfold uF; omega, fun hm => ?_⟩
  · unfold m_piece_units
    rw [quoM_of (by omega), Option.bind_some, w64_id (n := (192 : Int).tdiv f.Den) (by omega), w64_id (by omega)]; rfl
  · unfold m_gleeref2_units
    rw [quoM_of (by omega), Option.bind_some, w64_id (n := (192 : Int).tdiv f.Den) (by omega), w64_id (by omega)]; rfl
  · have h4 := Int.mul_tdiv_add_tmod 192 f.Den
    rw [hm] at h4
    have h5 : 1 ≤ (192 : Int).tdiv f.Den := by
      rcases Int.lt_or_le 0 ((192 : Int).tdiv f.Den) with h | h
      · omega
      · have : (192 : Int).tdiv f.Den = 0 := by omega
        rw [this] at h4; simp at h4
    have h6 : f.Num * 1 ≤ f.Num * (192 : Int).tdiv f.Den := Int.mul_le_mul_of_nonneg_left h5 h0
    unfold uF; omega
theorem Sounds_spec {bs : List TBar} {t : List TTone} {f : TFraction} (hb : ∀ x ∈ bs, bad x = false) (hl : bs.length ≤ 1000) (hg : ∀ x ∈ t, TGood x) (hn : inR f.Num) (hd : inR f.Den) (hk : m_piece_CheckTones bs t = some 0) :
    ∃ (r : Int × Bool) (k : Int), m_piece_Sounds bs t f = some (r.1, r.2, k) ∧ m_gleeref2_SoundsFault bs f = some k ∧ (k = 0 → m_gleeref2_SoundsOf t f = some r) ∧ (k ≠ 0 → r = (0, false)) := by
  obtain ⟨b, d, h1, h2, rfl⟩ := isLowest_spec f hn hd
  obtain ⟨h3, h4⟩ := sounds_sum bs 0 0 hb (by omega) (by omega)
  obtain ⟨h5, h6⟩ := sum_lB hb
  unfold m_piece_Sounds m_gleeref2_SoundsFault
  rw [hk, h1, h3, h4]
  simp only [Option.bind_some, bne_self_eq_false, ifB_false, fin_brk, Int.zero_add, h2]
  generalize hS : (bs.map lB).sum = S at h5 h6
  by_cases c1 : f.Den < 1
  · simp only [decide_eq_true c1, ifB_true, Bool.true_or, Bool.not_true, Bool.not_false, Option.bind_some, fin_inl]
    exact ⟨(0, false), 3, rfl, rfl, fun h => (by cases h), fun _ => rfl⟩
  · simp only [decide_eq_false c1, ifB_false, Bool.false_or, Bool.not_not, Option.bind_some, fin_inl]
    cases c2 : (d != 1) with
    | true => exact ⟨(0, false), 3, rfl, rfl, fun h => (by cases h), fun _ => rfl⟩
    | false =>
      simp only [ifB_false]
      by_cases c3 : f.Num < 0
      · simp only [decide_eq_true c3, ifB_true, Option.bind_some, fin_inl]
        exact ⟨(0, false), 1, rfl, rfl, fun h => (by cases h), fun _ => rfl⟩
      · simp only [decide_eq_false c3, ifB_false]
        rw [remM_of (by omega)]
        simp only [Option.bind_some]
        by_cases c4 : (192 : Int).tmod f.Den = 0
        · simp only [c4, bne_self_eq_false, ifB_false]
          by_cases c5 : f.Num > S
          · have c6 : f.Num ≥ S := by omega
            simp only [decide_eq_true c5, decide_eq_true c6, ifB_true, Option.bind_some, fin_inl]
            exact ⟨(0, false), 1, rfl, rfl, fun h => (by cases h), fun _ => rfl⟩
          · obtain ⟨u1, u2, u3, u4, u5⟩ := units_f (f := f) (by omega) (by omega) (by omega)
            have u5 := u5 c4
            simp only [decide_eq_false c5, ifB_false, u1, Option.bind_some, fin_inl]
            by_cases c7 : uF f ≥ S
            · have : ∀ (k : Bool → Option Int), ((ifB (decide (f.Num ≥ S)) (some (.inl true)) ((m_gleeref2_units f).bind fun y19 => some (.inl (decide (y19 ≥ S)))) : Option (Bool ⊕ Int)).bind fun z => Sum.fin z k) = k true := by
                intro k
                by_cases c8 : f.Num ≥ S
                · simp only [decide_eq_true c8, ifB_true, Option.bind_some, fin_inl]
                · simp only [decide_eq_false c8, ifB_false, u2, decide_eq_true c7, Option.bind_some, fin_inl]
              rw [this]
              simp only [decide_eq_true c7, ifB_true]
              exact ⟨(0, false), 1, rfl, rfl, fun h => (by cases h), fun _ => rfl⟩
            · have c8 : ¬ f.Num ≥ S := by omega
              simp only [decide_eq_false c7, decide_eq_false c8, ifB_false, u2, Option.bind_some, fin_inl]
              obtain ⟨r, r1, r2⟩ := sounds_loop f (uF f) u1 ⟨u3, by omega⟩ t 0 0 hg (by omega) u3
              refine ⟨r, 0, r1, rfl, fun _ => ?_, fun h => (h rfl).elim⟩
              unfold m_gleeref2_SoundsOf
              rw [u2, Option.bind_some]
              simpa using r2
        · have c5 : ((192 : Int).tmod f.Den != 0) = true := by simpa using c4
          simp only [c5, ifB_true, Option.bind_some, fin_inl]
          exact ⟨(0, false), 1, rfl, rfl, fun h => (by cases h), fun _ => rfl⟩
end Go.G
