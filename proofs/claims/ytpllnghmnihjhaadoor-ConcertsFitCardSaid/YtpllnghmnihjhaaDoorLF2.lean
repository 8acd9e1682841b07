/- LF2: the encores: the program's list is the reference's. In plain Lean, no program in sight. -/
import Derived.Test.YtpllnghmnihjhaaDoorLF1
namespace Go.G
open Go Go.J
def lng (p : TProgram) (z x : TItem) : Int := w64 (x.Long + ifB (!(x.Places.toList == z.Places.toList)) p.Change p.Clap)
def mkA (p : TProgram) (z x : TItem) : Tconcert_again := ⟨x.Key, lng p z x⟩
theorem filterMap_pick {α β : Type} (g : α → β) (c : α → Bool) (l : List α) : l.filterMap (fun x => if c x = true then some (g x) else none) = (l.filter c).map g := by
  induction l with
  | nil => rfl
  | cons x l ih => by_cases h : c x = true <;> simp [h, ih]
theorem ins_A (u : List Tconcert_again) (a b : Int) : m_slices_insertionSortCmpFunc_concert_again__concert_Encores_1 u a b = isM m_concert_Encores_1 u a b := rfl
theorem ins_B (u : List TItem) (a b : Int) (c0 c1 : ByteArray) (c2 : Int) (c3 : List ByteArray) (d0 : List TItem) (d1 d2 d3 d4 : Int) :
    m_slices_insertionSortCmpFunc_api_Item__gleeref2_EncoresIn_1__gleeref2_EncoresIn_3 u a b c0 c1 c2 c3 d0 d1 d2 d3 d4 = isM (fun x y => m_gleeref2_EncoresIn_3__gleeref2_EncoresIn_1 x y c0 c1 c2 c3 d0 d1 d2 d3 d4) u a b := rfl
theorem del_B (u : List TItem) (c0 c1 : ByteArray) (c2 : Int) (c3 : List ByteArray) (d0 : List TItem) (d1 d2 d3 d4 t : Int) :
    m_slices_DeleteFunc_api_Item_api_Item__gleeref2_EncoresIn_1__gleeref2_EncoresIn_2 u c0 c1 c2 c3 d0 d1 d2 d3 d4 t = dfM (TItem.mk ByteArray.empty ByteArray.empty 0 []) (fun x => m_gleeref2_EncoresIn_2__gleeref2_EncoresIn_1 x c0 c1 c2 c3 d0 d1 d2 d3 d4 t) u := rfl
theorem stab_A (u : List Tconcert_again) (h : u.length < 20) : m_slices_SortStableFunc_concert_again_concert_again__concert_Encores_1 u = isM m_concert_Encores_1 u 0 (u.length : Int) := by
  unfold m_slices_SortStableFunc_concert_again_concert_again__concert_Encores_1 m_slices_stableCmpFunc_concert_again__concert_Encores_1
  have h1 : m_slices_stableCmpFunc_concert_again__concert_Encores_1_l1 (u.length : Int) (0, 20, u) = some (.brk (0, 20, u)) := by
    unfold m_slices_stableCmpFunc_concert_again__concert_Encores_1_l1
    rw [decide_eq_false (by simp only; omega)]; rfl
  have h2 : m_slices_stableCmpFunc_concert_again__concert_Encores_1_l2 (u.length : Int) (20, 0, 20) = some (.brk (20, 0, 20)) := by
    unfold m_slices_stableCmpFunc_concert_again__concert_Encores_1_l2
    rw [decide_eq_false (by simp only; omega)]; rfl
  rw [loopM_step h1, run_brk, Option.bind_some, fin_brk, bind_ret, loopM_step h2, run_brk, ins_A]
  simp only [Option.bind_some, fin_brk]
  exact bind_ret _
theorem stab_B (u : List TItem) (h : u.length < 20) (c0 c1 : ByteArray) (c2 : Int) (c3 : List ByteArray) (d0 : List TItem) (d1 d2 d3 d4 : Int) :
    m_slices_SortStableFunc_api_Item_api_Item__gleeref2_EncoresIn_1__gleeref2_EncoresIn_3 u c0 c1 c2 c3 d0 d1 d2 d3 d4 = isM (fun x y => m_gleeref2_EncoresIn_3__gleeref2_EncoresIn_1 x y c0 c1 c2 c3 d0 d1 d2 d3 d4) u 0 (u.length : Int) := by
  unfold m_slices_SortStableFunc_api_Item_api_Item__gleeref2_EncoresIn_1__gleeref2_EncoresIn_3 m_slices_stableCmpFunc_api_Item__gleeref2_EncoresIn_1__gleeref2_EncoresIn_3
  have h1 : m_slices_stableCmpFunc_api_Item__gleeref2_EncoresIn_1__gleeref2_EncoresIn_3_l1 (u.length : Int) c0 c1 c2 c3 d0 d1 d2 d3 d4 (0, 20, u) = some (.brk (0, 20, u)) := by
    unfold m_slices_stableCmpFunc_api_Item__gleeref2_EncoresIn_1__gleeref2_EncoresIn_3_l1
    rw [decide_eq_false (by simp only; omega)]; rfl
  have h2 : m_slices_stableCmpFunc_api_Item__gleeref2_EncoresIn_1__gleeref2_EncoresIn_3_l2 (u.length : Int) (20, 0, 20) = some (.brk (20, 0, 20)) := by
    unfold m_slices_stableCmpFunc_api_Item__gleeref2_EncoresIn_1__gleeref2_EncoresIn_3_l2
    rw [decide_eq_false (by simp only; omega)]; rfl
  rw [loopM_step h1, run_brk, Option.bind_some, fin_brk, bind_ret, loopM_step h2, run_brk, ins_B]
  simp only [Option.bind_some, fin_brk]
  exact bind_ret _
theorem EncoresIn_1_eq (p : TProgram) (z x : TItem) : m_gleeref2_EncoresIn_1 x z.Key z.Places z.Long z.Parts p.Items p.Change p.Clap p.Break p.Half = some (lng p z x) := by
  unfold m_gleeref2_EncoresIn_1 lng
  cases (!(x.Places.toList == z.Places.toList)) <;> rfl
theorem sign_neg (d : Int) : ∃ s, m_gleeref2_sign d = some s ∧ decide (s < 0) = decide (d < 0) := by
  unfold m_gleeref2_sign
  by_cases h1 : d < 0
  · rw [decide_eq_true h1]; exact ⟨-1, rfl, rfl⟩
  · rw [decide_eq_false h1]
    by_cases h2 : d > 0
    · rw [decide_eq_true h2]; exact ⟨1, rfl, rfl⟩
    · rw [decide_eq_false h2]; exact ⟨0, rfl, rfl⟩
theorem Encores_spec {p : TProgram} {e : Int} (he : m_gleeref2_ProgramFault p = some e) (hlen : p.Items.length ≤ 5) (t : Int) :
    ∃ r, m_concert_Encores p t = some (if e = 0 ∧ (0 ≤ t ∧ t ≤ 86400000) ∧ p.Items.length ≠ 0 then r else [], if e = 0 then (if 0 ≤ t ∧ t ≤ 86400000 then (if p.Items.length ≠ 0 then 0 else 8) else 1) else e) ∧
      (e = 0 → 0 ≤ t → t ≤ 86400000 → p.Items.length ≠ 0 → m_gleeref2_EncoresIn p t = some r) := by
  unfold m_concert_Encores
  rw [CheckProgram_eq, he, Option.bind_some]
  by_cases h0 : ¬ e = 0
  · have : (e != 0) = true := by simpa using h0
    rw [this, ifB_true]
    exact ⟨[], by simp [h0], fun h => absurd h h0⟩
  have h0 := Classical.not_not.1 h0
  subst h0
  rw [show ((0 : Int) != 0) = false from rfl, ifB_false, Outside_spec, Option.bind_some]
  by_cases h1 : ¬ (0 ≤ t ∧ t ≤ 86400000)
  · rw [decide_eq_false h1, Bool.not_false, ifB_true]
    exact ⟨[], by simp [h1], fun _ a b => absurd ⟨a, b⟩ h1⟩
  have h1 := Classical.not_not.1 h1
  rw [decide_eq_true h1, Bool.not_true, ifB_false]
  by_cases h2 : p.Items.length = 0
  · rw [show ((p.Items.length : Int) == 0) = true by rw [h2]; rfl, ifB_true]
    exact ⟨[], by simp [h1, h2], fun _ _ _ h => absurd h2 h⟩
  rw [show ((p.Items.length : Int) == 0) = false by simpa using h2, ifB_false]
  unfold m_gleeref2_EncoresIn
  have hz : getI p.Items (w64 ((p.Items.length : Int) - 1)) = some p.Items[p.Items.length - 1] := getI_of (n := p.Items.length - 1) (by rw [w64_id (by omega)]; omega) (List.getElem?_eq_getElem (by omega))
  rw [hz, Option.bind_some, Option.bind_some]
  generalize p.Items[p.Items.length - 1] = z
  have hl1 : rangeM (m_concert_Encores_l1 p t z) 0 p.Items [] = some (.brk (p.Items.filterMap fun x => if decide (lng p z x ≤ t) = true then some (mkA p z x) else none)) := by
    refine rangeM_filterMap _ _ _ fun i x s hx hs => ?_
    have hi := (List.getElem?_eq_some_iff.1 hx).1
    unfold m_concert_Encores_l1 m_concert_change
    have e1 : (ifB (!(z.Places.toList == x.Places.toList)) (some p.Change) (some p.Clap)) = some (ifB (!(x.Places.toList == z.Places.toList)) p.Change p.Clap) := by
      rw [show (z.Places.toList == x.Places.toList) = (x.Places.toList == z.Places.toList) from BEq.comm]
      cases (!(x.Places.toList == z.Places.toList)) <;> rfl
    rw [e1, Option.bind_some, Int.add_comm _ x.Long]
    show ifB (decide (lng p z x ≤ t)) ((appM 24 s [mkA p z x]).bind fun q21 => some (Flow.nxt q21)) (some (Flow.nxt s)) = _
    by_cases h : lng p z x ≤ t
    · rw [decide_eq_true h, ifB_true, appM_of (by simp; omega) (by omega)]
      rfl
    · rw [decide_eq_false h, ifB_false]
      simp
  rw [hl1, filterMap_pick, Option.bind_some, fin_brk]
  unfold m_slices_Clone_api_Item_api_Item
  rw [appM_of (by simp; omega) (by omega), Option.bind_some, Option.bind_some, List.nil_append, del_B]
  rw [dfM_spec _ _ (fun x => decide (lng p z x > t)) p.Items (by omega) (fun x _ => by unfold m_gleeref2_EncoresIn_2__gleeref2_EncoresIn_1; rw [EncoresIn_1_eq]; rfl), Option.bind_some]
  have hf : (p.Items.filter fun x => !decide (lng p z x > t)) = p.Items.filter fun x => decide (lng p z x ≤ t) := by
    congr 1; funext x
    by_cases h : lng p z x ≤ t
    · rw [decide_eq_true h, decide_eq_false (by omega)]; rfl
    · rw [decide_eq_false h, decide_eq_true (by omega)]; rfl
  rw [hf]
  have hfl : (p.Items.filter fun x => decide (lng p z x ≤ t)).length ≤ 5 := Nat.le_trans (List.length_filter_le ..) hlen
  generalize (p.Items.filter fun x => decide (lng p z x ≤ t)) = l at hfl
  obtain ⟨m, h3, h4, h5⟩ := isM_map (mkA p z) m_concert_Encores_1 (fun x y => m_gleeref2_EncoresIn_3__gleeref2_EncoresIn_1 x y z.Key z.Places z.Long z.Parts p.Items p.Change p.Clap p.Break p.Half) l (by omega) (by
    intro x _ y _
    obtain ⟨s, h6, h7⟩ := sign_neg (w64 (lng p z y - lng p z x))
    refine ⟨w64 (lng p z y - lng p z x), s, rfl, ?_, h7.symm⟩
    unfold m_gleeref2_EncoresIn_3__gleeref2_EncoresIn_1
    rw [EncoresIn_1_eq, EncoresIn_1_eq, Option.bind_some, Option.bind_some, h6]; rfl)
  have hml := h4.length_eq
  rw [stab_A _ (by simp; omega), stab_B _ (by omega), h3, List.length_map, h5, Option.bind_some, Option.bind_some]
  have hk1 : rangeM m_concert_Encores_l2 0 (m.map (mkA p z)) [] = some (.brk ((m.map (mkA p z)).filterMap fun x => some x.key)) := by
    refine rangeM_filterMap _ _ _ fun i x s hx hs => ?_
    have hi := (List.getElem?_eq_some_iff.1 hx).1
    simp at hi
    unfold m_concert_Encores_l2
    rw [appM_of (by simp; omega) (by omega)]; rfl
  have hk2 : m_gleeref2_keysOf m = some (m.filterMap fun x => some x.Key) := by
    unfold m_gleeref2_keysOf
    rw [rangeM_filterMap _ (fun x => some x.Key) _ (fun i x s hx hs => by
      have hi := (List.getElem?_eq_some_iff.1 hx).1
      unfold m_gleeref2_keysOf_l1
      rw [appM_of (by simp; omega) (by omega)]; rfl)]; rfl
  rw [hk1, hk2, Option.bind_some, fin_brk, Option.bind_some]
  refine ⟨m.filterMap fun x => some x.Key, ?_, fun _ _ _ _ => rfl⟩
  rw [if_pos ⟨rfl, h1, h2⟩, if_pos rfl, if_pos h1, if_pos h2, List.filterMap_map]
  rfl
end Go.G
