/- LU3: tones in bars, as they are played, joined, and their range, in plain Lean. No program in sight. -/
import Derived.Test.YtlhfimbpjdfdgabGreatDoorLU2
namespace Go.G
open Go Go.J
set_option linter.unusedSimpArgs false
theorem sumU_nonneg {t : List TTone} (h : ∀ x ∈ t, TGood x) : 0 ≤ sumU t := by
  induction t with
  | nil => simp [sumU]
  | cons x t ih =>
    have h1 := (units_spec (h x (List.mem_cons_self ..))).2.2.1
    have h2 := ih fun y hy => h y (List.mem_cons_of_mem _ hy)
    show 0 ≤ uT x + sumU t
    omega
theorem inBars_inner (T : List TTone) (out : List (List TTone)) (rest : List TTone) (hT : T.length ≤ 2000) : ∀ (suf pre : List TTone), T = pre ++ suf ++ rest → (∀ x ∈ suf, TGood x) → sumU suf ≤ 4000 → loopM (m_piece_inBars_l2 (T, out)) ((pre.length : Int), sumU suf) = some (.brk (((pre.length + suf.length : Nat) : Int), 0))
  | [], pre, h, _, _ => by
    have e : m_piece_inBars_l2 (T, out) ((pre.length : Int), sumU []) = some (.brk ((pre.length : Int), 0)) := rfl
    rw [loopM_step e]; rfl
  | x :: suf, pre, h, hg, hs => by
    obtain ⟨u1, u2, u3, u4⟩ := units_spec (hg x (List.mem_cons_self ..))
    have hnn := sumU_nonneg (fun y hy => hg y (List.mem_cons_of_mem _ hy) : ∀ y ∈ suf, TGood y)
    have hx : T[pre.length]? = some x := by rw [h]; simp
    have hlt : pre.length < T.length := (List.getElem?_eq_some_iff.1 hx).1
    have hsum : sumU (x :: suf) = uT x + sumU suf := rfl
    have e : m_piece_inBars_l2 (T, out) ((pre.length : Int), sumU (x :: suf)) = some (.nxt (((pre ++ [x]).length : Int), sumU suf)) := by
      unfold m_piece_inBars_l2
      rw [hsum, decide_eq_true (by omega), ifB_true]
      simp only [getI_of (n := pre.length) rfl hx, Option.bind_some, u1]
      rw [w64_id (by omega), w64_id (by omega)]
      have e1 : (pre.length : Int) + 1 = ((pre ++ [x]).length : Int) := by simp
      have e2 : uT x + sumU suf - uT x = sumU suf := by omega
      rw [e1, e2]
    have ih := inBars_inner T out rest hT suf (pre ++ [x]) (by rw [h]; simp) (fun y hy => hg y (List.mem_cons_of_mem _ hy)) (by omega)
    rw [loopM_step e, run_nxt, ih]
    congr 3
    simp; omega
theorem inBars_spec : ∀ (bs : List TBar) (gs out : List (List TTone)) (i : Nat), (∀ x ∈ bs, bad x = false) → gs.map sumU = bs.map lB → (∀ x ∈ List.flatten gs, TGood x) → (List.flatten gs).length ≤ 2000 → out.length + bs.length ≤ 1000 →
    rangeM m_piece_inBars_l1 i bs (List.flatten gs, out) = some (.brk ([], out ++ gs))
  | [], gs, out, i, _, h, _, _, _ => by
    obtain rfl : gs = [] := by simpa using h
    simp
  | b :: bs, gs, out, i, hb, h, hg, hl, ho => by
    obtain ⟨l1, l2, l3, l4⟩ := long_spec (hb b (List.mem_cons_self ..))
    cases gs with
    | nil => cases h
    | cons g gs =>
      simp only [List.map_cons, List.cons.injEq] at h
      obtain ⟨h1, h2⟩ := h
      rw [List.flatten_cons] at hg hl ⊢
      simp only [List.length_append] at hl
      simp only [List.length_cons] at ho
      have hin := inBars_inner (g ++ List.flatten gs) out (List.flatten gs) (by rw [List.length_append]; omega) g [] (by simp) (fun x hx => hg x (List.mem_append_left _ hx)) (by omega)
      rw [h1] at hin
      simp only [List.length_nil, Nat.zero_add] at hin
      have e : m_piece_inBars_l1 i b (g ++ List.flatten gs, out) = some (.nxt (List.flatten gs, out ++ [g])) := by
        unfold m_piece_inBars_l1 m_slices_Clone_api_Tone_api_Tone
        simp only [l1, Option.bind_some]
        rw [show ((0 : Int), lB b) = (((0 : Nat) : Int), lB b) from rfl, hin]
        simp only [Option.bind_some, fin_brk]
        rw [sliceI_of (lo := 0) (hi := (g.length : Int)) (a := 0) (b := g.length) rfl rfl (Nat.zero_le _) (by simp), Option.bind_some]
        have e1 : ((g ++ List.flatten gs).drop 0).take (g.length - 0) = g := by simp
        rw [e1, appM_of (by simp; omega) (by omega)]
        simp only [Option.bind_some, List.nil_append]
        rw [appM_of (by simp; omega) (by omega), Option.bind_some, sliceI_of (a := g.length) (b := (g ++ List.flatten gs).length) rfl rfl (by simp) (Nat.le_refl _), Option.bind_some]
        have e2 : ((g ++ List.flatten gs).drop g.length).take ((g ++ List.flatten gs).length - g.length) = List.flatten gs := by rw [List.drop_left, List.length_append, Nat.add_sub_cancel_left, List.take_length]
        rw [e2]
      rw [rangeM_cons, e, Option.bind_some, run_nxt, inBars_spec bs gs (out ++ [g]) (i + 1) (fun x hx => hb x (List.mem_cons_of_mem _ hx)) h2 (fun x hx => hg x (List.mem_append_right _ hx)) (by omega) (by simp; omega)]
      simp
theorem inBarsOf_inner (T : List TTone) (out : List (List TTone)) (rest : List TTone) (hT : T.length ≤ 2000) : ∀ (suf pre : List TTone), T = pre ++ suf ++ rest → (∀ x ∈ suf, TGood x) → sumU suf ≤ 4000 → loopM (m_gleeref2_InBarsOf_l2 (T, out)) ((pre.length : Int), sumU suf) = some (.brk (((pre.length + suf.length : Nat) : Int), 0))
  | [], pre, h, _, _ => by
    have e : m_gleeref2_InBarsOf_l2 (T, out) ((pre.length : Int), sumU []) = some (.brk ((pre.length : Int), 0)) := rfl
    rw [loopM_step e]; rfl
  | x :: suf, pre, h, hg, hs => by
    obtain ⟨u1, u2, u3, u4⟩ := units_spec (hg x (List.mem_cons_self ..))
    have hnn := sumU_nonneg (fun y hy => hg y (List.mem_cons_of_mem _ hy) : ∀ y ∈ suf, TGood y)
    have hx : T[pre.length]? = some x := by rw [h]; simp
    have hlt : pre.length < T.length := (List.getElem?_eq_some_iff.1 hx).1
    have hsum : sumU (x :: suf) = uT x + sumU suf := rfl
    have e : m_gleeref2_InBarsOf_l2 (T, out) ((pre.length : Int), sumU (x :: suf)) = some (.nxt (((pre ++ [x]).length : Int), sumU suf)) := by
      unfold m_gleeref2_InBarsOf_l2
      rw [hsum, decide_eq_true (by omega), ifB_true]
      simp only [getI_of (n := pre.length) rfl hx, Option.bind_some, u2]
      rw [w64_id (by omega), w64_id (by omega)]
      have e1 : (pre.length : Int) + 1 = ((pre ++ [x]).length : Int) := by simp
      have e2 : uT x + sumU suf - uT x = sumU suf := by omega
      rw [e1, e2]
    have ih := inBarsOf_inner T out rest hT suf (pre ++ [x]) (by rw [h]; simp) (fun y hy => hg y (List.mem_cons_of_mem _ hy)) (by omega)
    rw [loopM_step e, run_nxt, ih]
    congr 3
    simp; omega
theorem inBarsOf_spec : ∀ (bs : List TBar) (gs out : List (List TTone)) (i : Nat), (∀ x ∈ bs, bad x = false) → gs.map sumU = bs.map lB → (∀ x ∈ List.flatten gs, TGood x) → (List.flatten gs).length ≤ 2000 → out.length + bs.length ≤ 1000 →
    rangeM m_gleeref2_InBarsOf_l1 i bs (List.flatten gs, out) = some (.brk ([], out ++ gs))
  | [], gs, out, i, _, h, _, _, _ => by
    obtain rfl : gs = [] := by simpa using h
    simp
  | b :: bs, gs, out, i, hb, h, hg, hl, ho => by
    obtain ⟨l1, l2, l3, l4⟩ := long_spec (hb b (List.mem_cons_self ..))
    cases gs with
    | nil => cases h
    | cons g gs =>
      simp only [List.map_cons, List.cons.injEq] at h
      obtain ⟨h1, h2⟩ := h
      rw [List.flatten_cons] at hg hl ⊢
      simp only [List.length_append] at hl
      simp only [List.length_cons] at ho
      have hin := inBarsOf_inner (g ++ List.flatten gs) out (List.flatten gs) (by rw [List.length_append]; omega) g [] (by simp) (fun x hx => hg x (List.mem_append_left _ hx)) (by omega)
      rw [h1] at hin
      simp only [List.length_nil, Nat.zero_add] at hin
      have e : m_gleeref2_InBarsOf_l1 i b (g ++ List.flatten gs, out) = some (.nxt (List.flatten gs, out ++ [g])) := by
        unfold m_gleeref2_InBarsOf_l1 m_slices_Clone_api_Tone_api_Tone
        simp only [l2, Option.bind_some]
        rw [show ((0 : Int), lB b) = (((0 : Nat) : Int), lB b) from rfl, hin]
        simp only [Option.bind_some, fin_brk]
        rw [sliceI_of (lo := 0) (hi := (g.length : Int)) (a := 0) (b := g.length) rfl rfl (Nat.zero_le _) (by simp), Option.bind_some]
        have e1 : ((g ++ List.flatten gs).drop 0).take (g.length - 0) = g := by simp
        rw [e1, appM_of (by simp; omega) (by omega)]
        simp only [Option.bind_some, List.nil_append]
        rw [appM_of (by simp; omega) (by omega), Option.bind_some, sliceI_of (a := g.length) (b := (g ++ List.flatten gs).length) rfl rfl (by simp) (Nat.le_refl _), Option.bind_some]
        have e2 : ((g ++ List.flatten gs).drop g.length).take ((g ++ List.flatten gs).length - g.length) = List.flatten gs := by rw [List.drop_left, List.length_append, Nat.add_sub_cancel_left, List.take_length]
        rw [e2]
      rw [rangeM_cons, e, Option.bind_some, run_nxt, inBarsOf_spec bs gs (out ++ [g]) (i + 1) (fun x hx => hb x (List.mem_cons_of_mem _ hx)) h2 (fun x hx => hg x (List.mem_append_right _ hx)) (by omega) (by simp; omega)]
      simp

theorem inBars_eq {bs : List TBar} {t : List TTone} {last : Bool} (hb : ∀ x ∈ bs, bad x = false) (hl : bs.length ≤ 600) (h : Fills bs t last) :
    ∃ gs, m_piece_inBars bs t = some gs ∧ m_gleeref2_InBarsOf bs t = some gs ∧ t = List.flatten gs ∧ gs.map sumU = bs.map lB := by
  obtain ⟨gs, h1, h2⟩ := h.seg
  refine ⟨gs, ?_, ?_, h1, h2⟩
  · unfold m_piece_inBars
    have h3 := h.good
    have h4 := h.len
    rw [h1] at h3 h4 ⊢
    rw [inBars_spec bs gs [] 0 hb h2 h3 h4 (by simp; omega)]; simp
  · unfold m_gleeref2_InBarsOf
    have h3 := h.good
    have h4 := h.len
    rw [h1] at h3 h4 ⊢
    rw [inBarsOf_spec bs gs [] 0 hb h2 h3 h4 (by simp; omega)]; simp
/-! ### as they are played -/
end Go.G
