/- LAc: acts of a club, as they are drawn. In plain Lean, no program in sight. -/
import Derived.Test.YtdmejijkjgdfaadGreatDoorLDo
import Derived.Test.YtdmejijkjgdfaadGreatDoorLM
namespace Go.G
open Go Go.J
set_option linter.unusedSimpArgs false
theorem ActOrder_total (a b : TAct) : ∃ c, m_gleeref2_ActOrder a b = some c := by
  have hs : ∀ n, ∃ c, m_gleeref2_sign n = some c := fun n => by unfold m_gleeref2_sign; cases decide (n < 0) <;> cases decide (n > 0) <;> exact ⟨_, rfl⟩
  unfold m_gleeref2_ActOrder
  obtain ⟨c1, h1⟩ := hs (w64 (a.At - b.At))
  obtain ⟨c2, h2⟩ := hs (w64 (a.No - b.No))
  rw [h1, h2, show m_strings_Compare a.Site b.Site = some _ from rfl]
  cases (a.At != b.At) <;> cases (!(a.Site.toList == b.Site.toList)) <;> exact ⟨_, rfl⟩
theorem StableA (u : List TAct) (hl : u.length ≤ 20) : ∃ m, m_slices_SortStableFunc_api_Act_api_Act__gleeref2_ActOrder u = some m ∧ m.Perm u := by
  have e0 : ∀ (v : List TAct) a b, m_slices_insertionSortCmpFunc_api_Act__gleeref2_ActOrder v a b = isM m_gleeref2_ActOrder v a b := fun _ _ _ => rfl
  have hc : ∀ x ∈ u, ∀ y ∈ u, ∃ c, m_gleeref2_ActOrder x y = some c := fun x _ y _ => ActOrder_total x y
  obtain ⟨m, h1, h2⟩ := isM_total m_gleeref2_ActOrder u (by omega) hc
  unfold m_slices_SortStableFunc_api_Act_api_Act__gleeref2_ActOrder m_slices_stableCmpFunc_api_Act__gleeref2_ActOrder
  by_cases h20 : u.length = 20
  · have g1 : m_slices_stableCmpFunc_api_Act__gleeref2_ActOrder_l1 (u.length : Int) (0, 20, u) = some (.nxt (20, 40, m)) := by
      unfold m_slices_stableCmpFunc_api_Act__gleeref2_ActOrder_l1
      rw [e0]
      simp only
      rw [show isM m_gleeref2_ActOrder u 0 20 = some m by rw [← h1, h20]; rfl, decide_eq_true (by omega), ifB_true]; rfl
    have g2 : m_slices_stableCmpFunc_api_Act__gleeref2_ActOrder_l1 (u.length : Int) (20, 40, m) = some (.brk (20, 40, m)) := by
      unfold m_slices_stableCmpFunc_api_Act__gleeref2_ActOrder_l1
      simp only
      rw [decide_eq_false (by omega), ifB_false]
    rw [loopM_step g1, run_nxt, loopM_step g2, run_brk, Option.bind_some, fin_brk, e0]
    simp only
    have g3 : isM m_gleeref2_ActOrder m 20 (u.length : Int) = some m := by
      unfold isM
      rw [loopM_step (show isL1 (ρ := List TAct) m_gleeref2_ActOrder 20 (u.length : Int) (w64 (20 + 1), m) = some (.brk (w64 (20 + 1), m)) by
        unfold isL1; rw [show w64 (20 + 1) = 21 from rfl]; simp only; rw [decide_eq_false (by omega), ifB_false]), run_brk]; rfl
    rw [g3, Option.bind_some]
    have g4 : m_slices_stableCmpFunc_api_Act__gleeref2_ActOrder_l2 (u.length : Int) (20, 20, 40) = some (.brk (20, 20, 40)) := by
      unfold m_slices_stableCmpFunc_api_Act__gleeref2_ActOrder_l2
      simp only
      rw [decide_eq_false (by omega), ifB_false]
    rw [loopM_step g4, run_brk]
    exact ⟨m, rfl, h2⟩
  · have g2 : m_slices_stableCmpFunc_api_Act__gleeref2_ActOrder_l1 (u.length : Int) (0, 20, u) = some (.brk (0, 20, u)) := by
      unfold m_slices_stableCmpFunc_api_Act__gleeref2_ActOrder_l1
      simp only
      rw [decide_eq_false (by omega), ifB_false]
    rw [loopM_step g2, run_brk, Option.bind_some, fin_brk, e0]
    simp only
    rw [h1, Option.bind_some]
    have g4 : m_slices_stableCmpFunc_api_Act__gleeref2_ActOrder_l2 (u.length : Int) (20, 0, 20) = some (.brk (20, 0, 20)) := by
      unfold m_slices_stableCmpFunc_api_Act__gleeref2_ActOrder_l2
      simp only
      rw [decide_eq_false (by omega), ifB_false]
    rw [loopM_step g4, run_brk]
    exact ⟨m, rfl, h2⟩
def zzB : ByteArray := ByteArray.mk [122, 122].toArray
def whoL : List ByteArray := [ByteArray.mk [97, 110, 110].toArray, ByteArray.mk [98, 111, 98].toArray, ByteArray.mk [99, 105, 100].toArray, ByteArray.empty]
structure ActsI (p0 : Int) (i : Nat) (s : Int × Int × (List (ByteArray × Int)) × (List TAct)) : Prop where
  at1 : 0 ≤ s.1
  at2 : s.1 ≤ 2592000000 * i
  pos : OKp (p0 + 20 * i) s.2.1
  no : ∀ k, 0 ≤ (lkM s.2.2.1 k).getD 0 ∧ (lkM s.2.2.1 k).getD 0 ≤ i
  len : s.2.2.2.length = i
  ats : ∀ x ∈ s.2.2.2, (0 ≤ x.At ∧ x.At ≤ 2592000000 * i) ∧ x.Site ≠ zzB ∧ x.Who ∈ whoL
theorem OKp.le {k k' p : Int} (h : OKp k p) (hk : k ≤ k') : OKp k' p := by unfold OKp at *; omega
set_option maxHeartbeats 4000000 in
theorem Acts_l1 (L : List Int) (p0 : Int) (hp0 : 0 ≤ p0) (hp1 : p0 ≤ 1000000) (i : Nat) (hi : i < 20) (x : Nat) (s : Int × Int × (List (ByteArray × Int)) × (List TAct)) (h : ActsI p0 i s) :
    ∃ s', m_gleemake_Stream_Acts_l1 L i x s = some (.nxt s') ∧ ActsI p0 (i + 1) s' := by
  obtain ⟨a, p, no, out⟩ := s
  obtain ⟨h1, h2, h3, h4, h5, h6⟩ := h
  simp only at h1 h2 h3 h4 h5 h6
  suffices hs : ∃ r, m_gleemake_Stream_Acts_l1 L i x (a, p, no, out) = some r ∧ ∃ s', r = .nxt s' ∧ ActsI p0 (i + 1) s' by
    obtain ⟨r, e, s', rfl, g⟩ := hs
    exact ⟨s', e, g⟩
  unfold m_gleemake_Stream_Acts_l1
  refine dr_Pick h3 (by omega) (by simp) (by simp) fun v q1 hv => ?_
  have hv1 : 0 ≤ v ∧ v ≤ 2592000000 := by
    simp only [List.mem_cons, List.not_mem_nil, or_false] at hv
    omega
  refine dr_Some q1 (by omega) (by simp) (by simp) fun site q2 hs => ?_
  refine dr_Pick q2 (by omega) (by simp) (by simp) fun kind q3 _ => ?_
  refine dr_Some q3 (by omega) (by simp) (by simp) fun who q4 hwh => ?_
  refine dr_Some q4 (by omega) (by simp) (by simp) fun mot q5 _ => ?_
  simp only
  have hw : w64 (a + v) = a + v := w64_id (by omega)
  have hw2 : w64 ((lkM no site).getD 0 + 1) = (lkM no site).getD 0 + 1 := w64_id (by have := h4 site; omega)
  rw [hw, hw2]
  have hno : ∀ k, 0 ≤ (lkM (putM no site ((lkM no site).getD 0 + 1)) k).getD 0 ∧ (lkM (putM no site ((lkM no site).getD 0 + 1)) k).getD 0 ≤ ((i + 1 : Nat) : Int) := fun k => by
    rw [lkM_put]
    have := h4 k; have := h4 site
    split
    · simp only [Option.getD_some]; omega
    · omega
  have hsa := hno (ByteArray.mk [115, 97].toArray)
  generalize putM no site ((lkM no site).getD 0 + 1) = no' at hno hsa ⊢
  have hsite : site ≠ zzB := by
    rintro rfl
    simp only [List.mem_cons, List.not_mem_nil, or_false] at hs
    rcases hs with h | h | h | h <;> exact absurd h (by decide)
  have hsz : ∀ z, z ∈ [ByteArray.empty, ByteArray.mk [115, 97].toArray] → z ≠ zzB := by
    rintro z hz rfl
    simp only [List.mem_cons, List.not_mem_nil, or_false] at hz
    rcases hz with h | h <;> exact absurd h (by decide)
  have hwho : who ∈ whoL := by
    simp only [List.mem_cons, List.not_mem_nil, or_false] at hwh
    unfold whoL
    rcases hwh with rfl | rfl | rfl | rfl <;> simp
  have hwe : ByteArray.empty ∈ whoL := by unfold whoL; simp
  have hw2 : ∀ z, z ∈ [ByteArray.empty, who] → z ∈ whoL := fun z hz => by
    simp only [List.mem_cons, List.not_mem_nil, or_false] at hz
    rcases hz with rfl | rfl
    · exact hwe
    · exact hwho
  have hw3 : ∀ z, z ∈ [ByteArray.empty, ByteArray.empty] → z ∈ whoL := fun z hz => by
    simp only [List.mem_cons, List.not_mem_nil, or_false, or_self] at hz
    rw [hz]; exact hwe
  have fin : ∀ (q : Int) (t : TAct), OKp (p0 + 20 * i + 1 + 1 + 1 + 1 + 1 + 12) q → t.At = a + v → t.Site ≠ zzB → t.Who ∈ whoL → ∃ r, (some (Flow.nxt (a + v, q, no', out ++ [t])) : Option (Flow (Int × Int × (List (ByteArray × Int)) × (List TAct)) ((List TAct) × Int))) = some r ∧ ∃ s', r = .nxt s' ∧ ActsI p0 (i + 1) s' := by
    intro q t hq ht ht2 ht3
    refine ⟨_, rfl, _, rfl, by simp only; omega, by simp only; omega, hq.le (by omega), hno, by simp [h5], fun y hy => ?_⟩
    rcases List.mem_append.1 hy with hy | hy
    · have := h6 y hy; exact ⟨by omega, this.2⟩
    · simp only [List.mem_singleton] at hy
      rw [hy]; exact ⟨by rw [ht]; omega, ht2, ht3⟩
  repeat' (first
    | with_reducible refine ex_if ?_ ?_
    | with_reducible refine ex_fin ?_
    | with_reducible refine dr_Flip (by assumption) (by omega) (by omega) (fun _ _ => ?_)
    | with_reducible refine dr_Next (by assumption) (by omega) (by omega) (fun _ _ _ _ => ?_)
    | with_reducible refine dr_Pick (by assumption) (by omega) (by simp) (by simp) (fun _ _ _ => ?_)
    | with_reducible refine dr_Some (by assumption) (by omega) (by simp) (by simp) (fun _ _ _ => ?_)
    | with_reducible refine dr_Odd (by assumption) (by omega) (by omega) (by omega) (by omega) (fun _ _ => ?_)
    | with_reducible refine dr_Range (by assumption) (by omega) (by omega) (by omega) (by omega) (fun _ _ _ _ => ?_)
    | with_reducible refine ex_app (by simp [h5]; omega) (by omega) ?_
    | exact fin _ _ (OKp.le (by assumption) (by omega)) rfl (by first | exact hsite | exact hsz _ (by assumption)) (by first | exact hwho | exact hwe | exact hw2 _ (by assumption) | exact hw3 _ (by assumption))
    | with_reducible refine ⟨_, rfl, _, rfl, ?_⟩)
theorem Acts_spec (L : List Int) {p n : Int} (hp : 0 ≤ p) (hp' : p ≤ 1000000) (hn : 0 ≤ n) (hn' : n ≤ 20) : ∃ l q, m_gleemake_Stream_Acts L p n = some (l, q) ∧ 0 ≤ q ∧ q ≤ p + 20 * n ∧ (l.length : Int) = n ∧ ∀ x ∈ l, (0 ≤ x.At ∧ x.At ≤ 2592000000 * n) ∧ x.Site ≠ zzB ∧ x.Who ∈ whoL := by
  unfold m_gleemake_Stream_Acts
  rw [rangeI_of (by omega), Option.bind_some]
  obtain ⟨s, h1, h2⟩ := rangeM_invx (m_gleemake_Stream_Acts_l1 L) (List.range n.toNat) (ActsI p) (by
    intro i x s hx hI
    have hi : i < n.toNat := by simpa using (List.getElem?_eq_some_iff.1 hx).1
    exact Acts_l1 L p hp hp' i (by omega) x s hI) (0, p, [], []) ⟨by simp, by simp, ⟨hp, by simp⟩, fun k => by simp [lkM], rfl, fun x hx => by cases hx⟩
  rw [h1, Option.bind_some, fin_brk]
  have hl := h2.len
  rw [List.length_range] at h2 hl
  obtain ⟨m, g1, g2⟩ := StableA s.2.2.2 (by omega)
  rw [g1, Option.bind_some]
  have hpos := h2.pos
  unfold OKp at hpos
  refine ⟨m, s.2.1, rfl, hpos.1, by omega, by rw [g2.length_eq]; omega, fun x hx => ?_⟩
  have := h2.ats x (g2.subset hx)
  exact ⟨by omega, this.2⟩
end Go.G
