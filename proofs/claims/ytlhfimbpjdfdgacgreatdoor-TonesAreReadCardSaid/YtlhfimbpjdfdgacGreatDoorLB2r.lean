/- Plain laws of the models; no condition beyond what each theorem says. -/
import Derived.Test.YtlhfimbpjdfdgacGreatDoorLT
namespace Go.G
open Go Go.J
theorem goB_snoc : ∀ (a : List TBar) (s s' : SB) (x : TBar), goB s a = .inr s' → goB s (a ++ [x]) = stB x s'
 | [], s, s', x, h => by
  cases h
  show (match stB x s with | .inl k => Sum.inl k | .inr s' => goB s' []) = _
  cases stB x s <;> rfl
 | y :: a, s, s', x, h => by
  obtain ⟨s1, h1, h2⟩ := goB_cons h
  show (match stB y s with | .inl k => Sum.inl k | .inr s' => goB s' (a ++ [x])) = _
  rw [h1]
  exact goB_snoc a s1 s' x h2
theorem bad_right {v u cl en : Int} {op : Bool} (hv : v ∈ ([1, 2, 3, 4] : List Int)) (hu : u ∈ ([4, 4, 2, 8] : List Int)) (hc : cl = 0 ∨ (2 ≤ cl ∧ cl ≤ 3)) (he : 0 ≤ en ∧ en ≤ 3) : bad ⟨v, u, cl, en, op⟩ = false := by
 unfold bad outB unitB
 simp only [List.mem_cons, List.not_mem_nil, or_false] at hv hu
 simp only [Bool.or_eq_false_iff, Bool.and_eq_false_iff, decide_eq_false_iff_not, Bool.not_eq_false', decide_eq_true_eq, bne_eq_false_iff_eq]
 refine ⟨⟨⟨⟨by omega, by omega⟩, ?_⟩, ?_⟩, by omega, by omega⟩
 ·rcases hu with rfl | rfl | rfl | rfl <;> simp
 ·omega
theorem stB_plain {v u e m : Int} (hv : v ∈ ([1, 2, 3, 4] : List Int)) (hu : u ∈ ([4, 4, 2, 8] : List Int)) : stB ⟨v, u, 0, 0, false⟩ (false, e, m, false) = .inr (false, e, m, false) := by
 unfold stB
 rw [bad_right hv hu (.inl rfl) (by omega)]
 rfl
theorem stB_group {v u cl en d m e : Int} {op s1 : Bool} (hb : bad ⟨v, u, cl, en, op⟩ = false) (ho : op = !s1) (he : op = false → e ≤ en ∧ m ≤ d) (he0 : 0 ≤ en) (hen : en ≤ d) (hc : cl = 0 ∨ cl = d) (hd : 2 ≤ d) :
  ∃ m', m' ≤ d ∧ stB ⟨v, u, cl, en, op⟩ (s1, e, m, false) = .inr (decide (cl = 0), en, m', false) := by
 subst ho
 unfold stB
 rw [hb, ifB_false]
 have hcl : ∀ k : Int, k ≤ d → (ifB (cl != 0) (.inr (false, en, k, false || decide (k > cl))) (.inr (true, en, k, false)) : Int ⊕ SB) = .inr (decide (cl = 0), en, k, false) := by
  intro k hk
  rcases hc with rfl | rfl
  ·rfl
  ·rw [show (cl != 0) = true by simp; omega, ifB_true, decide_eq_false (p := k > cl) (by omega), decide_eq_false (p := cl = 0) (by omega)]; rfl
 cases s1 with
 | false =>
  refine ⟨max 0 en, by omega, ?_⟩
  simp only [Bool.not_false, Bool.and_false, ifB_false, Bool.or_false, ifB_true, cond_true]
  rw [decide_eq_false (by omega : ¬ en < 0), ifB_false]
  exact hcl _ (by omega)
 | true =>
  obtain ⟨h1, h2⟩ := he rfl
  refine ⟨max m en, by omega, ?_⟩
  simp only [Bool.not_true, Bool.false_and, ifB_false, Bool.false_or, ifB_true, cond_false]
  rw [decide_eq_false (by omega : ¬ en < e), ifB_false]
  exact hcl _ (by omega)
theorem RightBars_1r (L : List Int) {p : Int} (hp : 0 ≤ p) (hp' : p ≤ 100000000) : ∃ v u, m_gleemake_Stream_RightBars_1 L p = some (⟨v, u, 0, 0, false⟩, p + 2) ∧ v ∈ ([1, 2, 3, 4] : List Int) ∧ u ∈ ([4, 4, 2, 8] : List Int) := by
 unfold m_gleemake_Stream_RightBars_1
 obtain ⟨v, hv, hv2⟩ := Pick_spec L (p := p) [1, 2, 3, 4] (by omega) (by omega) (by simp) (by simp)
 obtain ⟨u, hu, hu2⟩ := Pick_spec L (p := p + 1) [4, 4, 2, 8] (by omega) (by omega) (by simp) (by simp)
 have e : p + 1 + 1 = p + 2 := by omega
 exact ⟨v, u, by rw [hv]; simp only [Option.bind_some, hu, fin_inl, e], hv2, hu2⟩
abbrev s0B : SB := (false, 0, 0, false)
def Sm (x : TBar) : Prop := x.Beats ≤ 4 ∧ 2 ≤ x.Unit
theorem Sm_mk {v u : Int} (hv : v ∈ ([1, 2, 3, 4] : List Int)) (hu : u ∈ ([4, 4, 2, 8] : List Int)) (cl en : Int) (op : Bool) : Sm ⟨v, u, cl, en, op⟩ := by
 simp only [List.mem_cons, List.not_mem_nil, or_false] at hv hu
 exact ⟨by show v ≤ 4; omega, by show 2 ≤ u; omega⟩
theorem Sm_add {l : List TBar} (h : ∀ x ∈ l, Sm x) {y : TBar} (hy : Sm y) : ∀ x ∈ l ++ [y], Sm x := fun x hx => by
 rcases List.mem_append.1 hx with h1 | h1
 ·exact h x h1
 ·rw [List.mem_singleton] at h1; rw [h1]; exact hy
theorem RightBars_goB (L : List Int) : ∃ bs p', m_gleemake_Stream_RightBars L 0 = some (bs, p') ∧ 1 ≤ bs.length ∧ bs.length ≤ 12 ∧ 0 ≤ p' ∧ p' ≤ 1000 ∧ (∀ x ∈ bs, Sm x) ∧ ∃ e m, goB s0B bs = .inr (false, e, m, false) := by
 unfold m_gleemake_Stream_RightBars
 obtain ⟨n, hn, hn1, hn2⟩ := Range_spec L (p := 0) (a := 1) (b := 4) (by omega) (by omega) (by omega) (by omega) (by omega)
 rw [hn]
 show ∃ bs p', (rangeI n).bind _ = _ ∧ _
 rw [rangeI_of (by omega)]
 let I : Nat → Int × List TBar → Prop := fun i s => (i ≤ s.2.length ∧ s.2.length ≤ 3 * i) ∧ 0 ≤ s.1 ∧ s.1 ≤ 1 + 12 * i ∧ (∀ x ∈ s.2, Sm x) ∧ ∃ e m, goB s0B s.2 = .inr (false, e, m, false)
 have hst : ∀ i x s, (List.range n.toNat)[i]? = some x → I i s → ∃ s', m_gleemake_Stream_RightBars_l1 L i x s = some (.nxt s') ∧ I (i + 1) s' := by
  rintro i x ⟨p, acc⟩ hi ⟨⟨ha0, ha⟩, hp, hp', hsm, e0, m0, hg0⟩
  have hi4 : i < 4 := by
   have := (List.getElem?_eq_some_iff.1 hi).1; simp at this; omega
  have hp1 : p ≤ 100 := by simp at hp'; omega
  have ha1 : acc.length ≤ 12 := by simp at ha; omega
  simp only at ha0 ha hp hp' hg0 hsm
  unfold m_gleemake_Stream_RightBars_l1
  obtain ⟨f, hf⟩ := Flip_spec L (p := p) (n := 2) (by omega) (by omega) (by omega)
  show ∃ s', (m_gleemake_Stream_Flip L p 2).bind _ = _ ∧ _
  rw [hf]
  show ∃ s', ifB (!f) _ _ = _ ∧ _
  cases f with
  | false =>
   obtain ⟨v, u, hb, hv, hu⟩ := RightBars_1r L (p := p + 1) (by omega) (by omega)
   refine ⟨(p + 1 + 2, acc ++ [⟨v, u, 0, 0, false⟩]), ?_, ?_, ?_, ?_, Sm_add hsm (Sm_mk hv hu _ _ _), e0, m0, ?_⟩
   ·show (m_gleemake_Stream_RightBars_1 L (p + 1)).bind _ = _
    rw [hb]
    show (appM 40 acc [(TBar.mk v u 0 0 false)]).bind _ = _
    rw [appM_of (by simp; omega) (by omega)]; rfl
   ·simp; omega
   ·simp; omega
   ·simp; omega
   ·rw [goB_snoc _ _ _ _ hg0, stB_plain hv hu]
  | true =>
   obtain ⟨c, hc, hc1, hc2⟩ := Range_spec L (p := p + 1) (a := 1) (b := 3) (by omega) (by omega) (by omega) (by omega) (by omega)
   obtain ⟨d, hd, hd1, hd2⟩ := Range_spec L (p := p + 1 + 1) (a := 2) (b := 3) (by omega) (by omega) (by omega) (by omega) (by omega)
   let J : Nat → Int × Int × List TBar → Prop := fun j s => s.2.2.length = acc.length + j ∧ p ≤ s.2.1 ∧ s.2.1 ≤ p + 3 + 3 * j ∧ 0 ≤ s.1 ∧ s.1 ≤ d ∧ (j = 0 → s.1 = 0) ∧ (∀ x ∈ s.2.2, Sm x) ∧
    ∃ e m, goB s0B s.2.2 = .inr (decide (0 < j ∧ j < c.toNat), e, m, false) ∧ (0 < j → e = s.1 ∧ m ≤ d)
   have hst2 : ∀ j y s, (List.range c.toNat)[j]? = some y → J j s → ∃ s', m_gleemake_Stream_RightBars_l2 L (c, p + 1 + 1) (d, p + 1 + 1 + 1) j y s = some (.nxt s') ∧ J (j + 1) s' := by
    rintro j y ⟨e, q, cc⟩ hj ⟨k1, k2, k3, k4, k5, k6, k9, e', m, k7, k8⟩
    have hjc : j < c.toNat := by
     have := (List.getElem?_eq_some_iff.1 hj).1; simpa using this
    simp only at k1 k2 k3 k4 k5 k6 k7 k8 k9
    unfold m_gleemake_Stream_RightBars_l2
    obtain ⟨v, u, hb, hv, hu⟩ := RightBars_1r L (p := q) (by omega) (by omega)
    obtain ⟨f, hf⟩ := Flip_spec L (p := q + 2) (n := 2) (by omega) (by omega) (by omega)
    show ∃ s', (m_gleemake_Stream_RightBars_1 L q).bind _ = _ ∧ _
    rw [hb]
    have hap : ∀ z : TBar, appM 40 cc [z] = some (cc ++ [z]) := fun z => appM_of (by simp; omega) (by omega)
    have hop : ((j : Int) == 0) = !decide (0 < j ∧ j < c.toNat) := by
     by_cases h : j = 0
     ·subst h; simp
     ·rw [decide_eq_true ⟨by omega, hjc⟩]; simp; omega
    have hend : ∀ (en q' cl : Int), 0 ≤ en → en ≤ d → e ≤ en → q ≤ q' → q' ≤ q + 3 → (cl = d ∧ j + 1 = c.toNat ∨ cl = 0 ∧ j + 1 ≠ c.toNat) → J (j + 1) (en, q', cc ++ [⟨v, u, cl, en, ((j : Int) == 0)⟩]) := by
     intro en q' cl g1 g2 g3 g4 g5 g6
     obtain ⟨m', hm', hs⟩ := stB_group (v := v) (u := u) (cl := cl) (en := en) (d := d) (m := m) (e := e') (op := ((j : Int) == 0)) (s1 := decide (0 < j ∧ j < c.toNat))
      (bad_right hv hu (by omega) (by omega)) hop (fun h => by
       have hj0 : 0 < j := by
        have : ¬ (j : Int) = 0 := by simpa using h
        omega
       obtain ⟨a1, a2⟩ := k8 hj0
       exact ⟨by omega, a2⟩) g1 g2 (by omega) hd1
     refine ⟨by simp; omega, by simp only; omega, by simp only; omega, g1, g2, by omega, Sm_add k9 (Sm_mk hv hu _ _ _), en, m', ?_, fun _ => ⟨rfl, hm'⟩⟩
     simp only
     rw [goB_snoc _ _ _ _ k7, hs]
     have : decide (cl = 0) = decide (0 < j + 1 ∧ j + 1 < c.toNat) := by
      rw [decide_eq_decide]; omega
     rw [this]
    have hw : w64 (e + 1) = e + 1 := w64_id (by omega)
    have hcl : ((j : Int) == w64 (c - 1)) = decide (j + 1 = c.toNat) := by
     rw [w64_id (by omega), Bool.eq_iff_iff]; simp; omega
    by_cases hj0 : (j : Int) > 0
    ·simp only [Option.bind_some, decide_eq_true hj0, ifB_true, hf, fin_inl, hap, hcl, hw]
     by_cases hl : j + 1 = c.toNat
     ·simp only [decide_eq_true hl, ifB_true]
      cases f with
      | true => simp only [ifB_true, Option.bind_some, fin_inl]; exact ⟨_, rfl, hend _ _ _ (by omega) (by omega) (by omega) (by omega) (by omega) (.inl ⟨rfl, hl⟩)⟩
      | false => simp only [ifB_false, Option.bind_some, fin_inl]; exact ⟨_, rfl, hend _ _ _ (by omega) (by omega) (by omega) (by omega) (by omega) (.inl ⟨rfl, hl⟩)⟩
     ·simp only [decide_eq_false hl, ifB_false]
      cases f with
      | true => simp only [ifB_true, Option.bind_some, fin_inl]; exact ⟨_, rfl, hend _ _ _ (by omega) (by omega) (by omega) (by omega) (by omega) (.inr ⟨rfl, hl⟩)⟩
      | false => simp only [ifB_false, Option.bind_some, fin_inl]; exact ⟨_, rfl, hend _ _ _ (by omega) (by omega) (by omega) (by omega) (by omega) (.inr ⟨rfl, hl⟩)⟩
    ·simp only [Option.bind_some, decide_eq_false hj0, ifB_false, fin_inl, hap, hcl]
     by_cases hl : j + 1 = c.toNat
     ·simp only [decide_eq_true hl, ifB_true, Option.bind_some, fin_inl]; exact ⟨_, rfl, hend _ _ _ (by omega) (by omega) (by omega) (by omega) (by omega) (.inl ⟨rfl, hl⟩)⟩
     ·simp only [decide_eq_false hl, ifB_false, Option.bind_some, fin_inl]; exact ⟨_, rfl, hend _ _ _ (by omega) (by omega) (by omega) (by omega) (by omega) (.inr ⟨rfl, hl⟩)⟩
   obtain ⟨s', h1, h2⟩ := rangeM_invx _ _ J hst2 (0, p + 1 + 1 + 1, acc) ⟨by simp, by simp; omega, by simp; omega, by simp, by simp only; omega, fun _ => rfl, hsm, e0, m0, by simpa using hg0, fun h => absurd h (Nat.lt_irrefl 0)⟩
   have hr : 1 ≤ (List.range c.toNat).length ∧ (List.range c.toNat).length ≤ 3 := by simp; omega
   obtain ⟨h2a, h2b, h2c, h2d, h2e, h2f, h2s, e2, m2, h2g, h2h⟩ := h2
   refine ⟨(s'.2.1, s'.2.2), ?_, ?_, ?_, ?_, h2s, e2, m2, ?_⟩
   ·show (m_gleemake_Stream_Range L (p + 1) 1 3).bind _ = _
    rw [hc]
    show (m_gleemake_Stream_Range L (p + 1 + 1) 2 3).bind _ = _
    rw [hd]
    show (rangeI c).bind _ = _
    rw [rangeI_of (by omega)]
    show (rangeM (m_gleemake_Stream_RightBars_l2 L (c, p + 1 + 1) (d, p + 1 + 1 + 1)) 0 (List.range c.toNat) (0, p + 1 + 1 + 1, acc)).bind _ = _
    rw [h1]; rfl
   ·simp only; omega
   ·simp only; omega
   ·simp only; omega
   ·rw [List.length_range, decide_eq_false (by omega)] at h2g
    exact h2g
 obtain ⟨s', h1, h2⟩ := rangeM_invx _ _ I hst (0 + 1, []) ⟨by simp, by simp, by simp, by simp, 0, 0, rfl⟩
 refine ⟨s'.2, s'.1, ?_, ?_, ?_, ?_, ?_, h2.2.2.2⟩
 ·show (rangeM (m_gleemake_Stream_RightBars_l1 L) 0 (List.range n.toNat) (0 + 1, [])).bind _ = _
  rw [h1]; rfl
 ·have := h2.1.1; simp at this; omega
 ·have := h2.1.2; simp at this; omega
 ·exact h2.2.1
 ·have := h2.2.2.1; simp at this; omega
theorem RightBars_short (L : List Int) : ∃ bs p', m_gleemake_Stream_RightBars L 0 = some (bs, p') ∧ 1 ≤ bs.length ∧ bs.length ≤ 12 ∧ 0 ≤ p' ∧ p' ≤ 1000 ∧ cB bs = 0 ∧ ∀ x ∈ bs, Sm x := by
 obtain ⟨bs, p', h1, h2, h3, h4, h5, hs, e, m, hg⟩ := RightBars_goB L
 refine ⟨bs, p', h1, h2, h3, h4, h5, ?_, hs⟩
 have hok := grp_ok bs _ hg
 have hlen := expand_len bs 12 (gsB none 0 bs) (fun g hg => by have := hok g hg; omega)
 have hl2 := gsB_len bs 0 none
 have hm : (gsB none 0 bs).length * (9 * 12) ≤ 12 * (9 * 12) := Nat.mul_le_mul_right _ (by omega)
 unfold cB
 rw [show ((bs.length : Int) == 0) = false from beq_eq_false_iff_ne.2 (by omega), ifB_false, decide_eq_false (p := (bs.length : Int) > 300) (by omega), ifB_false, hg]
 show ifB (false || false) 16 (ifB (decide ((expand bs (gsB none 0 bs)).length > 2000)) 2 0) = 0
 rw [decide_eq_false (by omega)]; rfl
theorem RightBars_right (L : List Int) : ∃ bs p', m_gleemake_Stream_RightBars L 0 = some (bs, p') ∧ 1 ≤ bs.length ∧ bs.length ≤ 12 ∧ 0 ≤ p' ∧ p' ≤ 1000 ∧ cB bs = 0 := by
 obtain ⟨bs, p', h1, h2, h3, h4, h5, h6, -⟩ := RightBars_short L
 exact ⟨bs, p', h1, h2, h3, h4, h5, h6⟩
end Go.G
