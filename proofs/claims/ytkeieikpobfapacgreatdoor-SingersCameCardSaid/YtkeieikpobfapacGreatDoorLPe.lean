/- LPe: when a singer was there within a window, by the moments at which something happens: the same. In plain Lean, no program in sight. -/
import Derived.Test.YtkeieikpobfapacGreatDoorLRk
namespace Go.G
open Go Go.J
set_option linter.unusedSimpArgs false
set_option linter.unusedVariables false
theorem mem_compactI {zs : List Int} {y : Int} : y ∈ Lib.compact zs ↔ y ∈ zs := by
 constructor
 ·intro h
  unfold Lib.compact Lib.compactUpTo at h
  obtain ⟨j, hj, rfl⟩ := List.mem_map.1 h
  have hj := List.mem_range.1 (List.mem_filter.1 hj).1
  have hj' : j < zs.length := by simpa using hj
  simp [hj']
 ·intro h
  have key : ∀ j (hj : j < zs.length), zs[j] ∈ Lib.compact zs := by
   intro j
   induction j with
   | zero =>
    intro hj
    unfold Lib.compact Lib.compactUpTo
    refine List.mem_map.2 ⟨0, List.mem_filter.2 ⟨List.mem_range.2 (by simpa using hj), by simp [Lib.keeps]⟩, by simp [hj]⟩
   | succ j ih =>
    intro hj
    by_cases he : zs[j + 1] = zs[j]
    ·rw [he]; exact ih (by omega)
    ·unfold Lib.compact Lib.compactUpTo
     refine List.mem_map.2 ⟨j + 1, List.mem_filter.2 ⟨List.mem_range.2 (by simpa using hj), ?_⟩, by simp [hj]⟩
     unfold Lib.keeps
     rw [decide_eq_true_eq]
     refine .inr ?_
     simpa [hj, show j < zs.length by omega] using he
  obtain ⟨j, hj, rfl⟩ := List.getElem_of_mem h
  exact key j hj
theorem compact_strict {zs : List Int} (h : zs.Pairwise fun a b => a ≤ b) : (Lib.compact zs).Pairwise fun a b => a < b := by
 have hp := List.pairwise_iff_getElem.1 h
 unfold Lib.compact Lib.compactUpTo
 rw [List.pairwise_map]
 have hr : ((List.range zs.length).filter (Lib.keeps zs.toArray)).Pairwise fun a b => a < b ∧ b < zs.length ∧ Lib.keeps zs.toArray b = true := by
  have h1 : (List.range zs.length).Pairwise fun a b => a < b := List.pairwise_lt_range
  have h2 := h1.filter (Lib.keeps zs.toArray)
  refine h2.imp_of_mem fun {a b} ha hb hab => ⟨hab, ?_, ?_⟩
  ·exact List.mem_range.1 (List.mem_filter.1 hb).1
  ·exact (List.mem_filter.1 hb).2
 refine hr.imp fun {a b} hab => ?_
 obtain ⟨h1, h2, h3⟩ := hab
 unfold Lib.keeps at h3
 rw [decide_eq_true_eq] at h3
 have h4 : zs.toArray[b]! = zs[b] := by simp [h2]
 have h5 : zs.toArray[b - 1]! = zs[b - 1]'(by omega) := by simp [show b - 1 < zs.length by omega]
 have h6 : zs.toArray[a]! = zs[a]'(by omega) := by simp [show a < zs.length by omega]
 rw [h4, h6]
 have h7 : zs[b] ≠ zs[b - 1]'(by omega) := by
  rcases h3 with h3 | h3
  ·omega
  ·rw [h4, h5] at h3; exact h3
 have h8 := hp (b - 1) b (by omega) h2 (by omega)
 have h9 : zs[a]'(by omega) ≤ zs[b - 1]'(by omega) := by
  by_cases e : a = b - 1
  ·subst e; exact Int.le_refl _
  ·exact hp a (b - 1) (by omega) (by omega) (by omega)
 omega
def leI (x y : Int) : Bool := decide (x ≤ y)
theorem sortI_pw (l : List Int) : (l.mergeSort leI).Pairwise fun a b => a ≤ b := by
 have h := List.pairwise_mergeSort (le := leI) (fun a b c hab hbc => by unfold leI at *; rw [decide_eq_true_eq] at *; omega) (fun a b => by unfold leI; rw [Bool.or_eq_true, decide_eq_true_eq, decide_eq_true_eq]; omega) l
 exact h.imp fun {a b} hab => of_decide_eq_true hab
theorem sortI_perm (l : List Int) : (l.mergeSort leI).Perm l := List.mergeSort_perm l leI
structure SepX (l : List TWindow) : Prop where
 pw : l.Pairwise fun a b => a.To < b.From
 ok : ∀ w ∈ l, w.From < w.To
theorem SepX.tail {w : TWindow} {l : List TWindow} (h : SepX (w :: l)) : SepX l := ⟨(List.pairwise_cons.1 h.pw).2, fun x hx => h.ok x (List.mem_cons_of_mem _ hx)⟩
theorem cov_before {w : TWindow} {l : List TWindow} (h : SepX (w :: l)) {t : Int} (ht : t ≤ w.To) : covW l t = false := List.any_eq_false.2 fun x hx g => by
 have h1 := (List.pairwise_cons.1 h.pw).1 x hx
 have h2 := hasW_iff.1 g
 omega
theorem sep_uniq : ∀ (l l' : List TWindow), SepX l → SepX l' → (∀ t, covW l t = covW l' t) → l = l' := by
 intro l
 induction l with
 | nil =>
  intro l' _ h' hc
  cases l' with
  | nil => rfl
  | cons b t =>
   have h1 := hc b.From
   have h2 := h'.ok b (List.mem_cons_self ..)
   rw [cov_cons, show hasW b b.From = true from hasW_iff.2 (by omega)] at h1
   cases h1
 | cons a t ih =>
  intro l' h h' hc
  cases l' with
  | nil =>
   have h1 := hc a.From
   have h2 := h.ok a (List.mem_cons_self ..)
   rw [cov_cons, show hasW a a.From = true from hasW_iff.2 (by omega)] at h1
   cases h1
  | cons b t' =>
   have ha := h.ok a (List.mem_cons_self ..)
   have hb := h'.ok b (List.mem_cons_self ..)
   have one : ∀ {a b : TWindow} {t t' : List TWindow}, SepX (a :: t) → SepX (b :: t') → (∀ z, covW (a :: t) z = covW (b :: t') z) → b.From ≤ a.From := by
    intro a b t t' h h' hc
    have ha := h.ok a (List.mem_cons_self ..)
    have hb := h'.ok b (List.mem_cons_self ..)
    have h1 := hc a.From
    rw [cov_cons, show hasW a a.From = true from hasW_iff.2 (by omega), Bool.true_or, cov_cons] at h1
    by_cases hlt : b.From ≤ a.From
    ·exact hlt
    ·have h2 : hasW b a.From = false := Bool.eq_false_iff.2 fun g => by have := hasW_iff.1 g; omega
     rw [h2, cov_before h' (by omega)] at h1
     cases h1
   have hF : a.From = b.From := Int.le_antisymm (one h' h fun z => (hc z).symm) (one h h' hc)
   have two : ∀ {a b : TWindow} {t t' : List TWindow}, SepX (a :: t) → SepX (b :: t') → a.From = b.From → (∀ z, covW (a :: t) z = covW (b :: t') z) → b.To ≤ a.To := by
    intro a b t t' h h' hF hc
    have ha := h.ok a (List.mem_cons_self ..)
    by_cases hlt : b.To ≤ a.To
    ·exact hlt
    ·have h1 := hc a.To
     rw [cov_cons, show hasW a a.To = false from Bool.eq_false_iff.2 fun g => by have := hasW_iff.1 g; omega, cov_before h (Int.le_refl _), cov_cons, show hasW b a.To = true from hasW_iff.2 (by omega)] at h1
     cases h1
   have hT : a.To = b.To := Int.le_antisymm (two h' h hF.symm fun z => (hc z).symm) (two h h' hF hc)
   have hab : a = b := by cases a; cases b; simp only at hF hT; rw [hF, hT]
   subst hab
   congr 1
   refine ih t' h.tail h'.tail fun z => ?_
   by_cases hz : z ≤ a.To
   ·rw [cov_before h hz, cov_before h' hz]
   ·have h1 := hc z
    have h2 : hasW a z = false := Bool.eq_false_iff.2 fun g => by have := hasW_iff.1 g; omega
    rw [cov_cons, cov_cons, h2] at h1
    exact h1
theorem clip_sep {l : List TWindow} (h : SepW l) (w : TWindow) : SepX (l.filterMap (clipW w)) ∧ ∀ t, covW (l.filterMap (clipW w)) t = (hasW w t && covW l t) := by
 refine ⟨⟨?_, ?_⟩, fun t => ?_⟩
 ·rw [List.pairwise_filterMap]
  refine h.pw.imp fun {a b} hab x hx y hy => ?_
  unfold clipW at hx hy
  split at hx <;> split at hy
  ·cases hx; cases hy; simp only; omega
  ·cases hy
  ·cases hx
  ·cases hx
 ·intro x hx
  obtain ⟨y, _, hy⟩ := List.mem_filterMap.1 hx
  unfold clipW at hy
  split at hy
  ·cases hy; assumption
  ·cases hy
 ·unfold covW
  rw [List.any_filterMap, Bool.eq_iff_iff, List.any_eq_true, Bool.and_eq_true, List.any_eq_true]
  constructor
  ·rintro ⟨s, hs, hp⟩
   unfold clipW at hp
   by_cases g : max s.From w.From < min s.To w.To
   ·rw [if_pos g] at hp
    have := hasW_iff.1 hp
    simp only at this
    exact ⟨hasW_iff.2 (by omega), s, hs, hasW_iff.2 (by omega)⟩
   ·rw [if_neg g] at hp; cases hp
  ·rintro ⟨hw, s, hs, hp⟩
   have h1 := hasW_iff.1 hw
   have h2 := hasW_iff.1 hp
   refine ⟨s, hs, ?_⟩
   unfold clipW
   rw [if_pos (by omega)]
   exact hasW_iff.2 (by simp only; omega)
theorem thereAt_s (c : List TCame) (s : ByteArray) (t : Int) : m_gleeref2_thereAt c s t = some (thB c s t) := by
 unfold m_gleeref2_thereAt thB
 have key : ∀ (l : List TCame) (i : Nat) (b : Bool), rangeM (m_gleeref2_thereAt_l1 s t) i l b = some (.brk (l.foldl (fun b x => if x.Singer = s ∧ x.At ≤ t then !x.Left else b) b)) := by
  intro l
  induction l with
  | nil => intro i b; rfl
  | cons x l ih =>
   intro i b
   have hst : m_gleeref2_thereAt_l1 s t i x b = some (.nxt (if x.Singer = s ∧ x.At ≤ t then !x.Left else b)) := by
    unfold m_gleeref2_thereAt_l1
    change ((ifB (sameB x.Singer s) _ _ : Option _).bind _) = _
    cases hs : sameB x.Singer s with
    | false => rw [if_neg (fun g => by rw [sameB_iff.2 g.1] at hs; cases hs)]; rfl
    | true =>
     have e := sameB_iff.1 hs
     rw [ifB_true, Option.bind_some, fin_inl]
     by_cases h : x.At ≤ t
     ·rw [decide_eq_true h, if_pos ⟨e, h⟩]; rfl
     ·rw [decide_eq_false h, if_neg (fun g => h g.2)]; rfl
   rw [rangeM_cons, hst, Option.bind_some, run_nxt, ih]
   rfl
 rw [key]; rfl
theorem thB_const {c : List TCame} {s : ByteArray} {a b : Int} (h : ∀ x ∈ c, x.Singer = s → (x.At ≤ a ↔ x.At ≤ b)) : thB c s a = thB c s b := by
 unfold thB
 have key : ∀ (l : List TCame) (z : Bool), (∀ x ∈ l, x.Singer = s → (x.At ≤ a ↔ x.At ≤ b)) → l.foldl (fun b x => if x.Singer = s ∧ x.At ≤ a then !x.Left else b) z = l.foldl (fun z x => if x.Singer = s ∧ x.At ≤ b then !x.Left else z) z := by
  intro l
  induction l with
  | nil => intro z _; rfl
  | cons x l ih =>
   intro z hl
   rw [List.foldl_cons, List.foldl_cons]
   have hx := hl x (List.mem_cons_self ..)
   have e : (if x.Singer = s ∧ x.At ≤ a then !x.Left else z) = (if x.Singer = s ∧ x.At ≤ b then !x.Left else z) := by
    by_cases hs : x.Singer = s
    ·have := hx hs
     by_cases ha : x.At ≤ a
     ·rw [if_pos ⟨hs, ha⟩, if_pos ⟨hs, this.1 ha⟩]
     ·rw [if_neg (fun g => ha g.2), if_neg (fun g => ha (this.2 g.2))]
    ·rw [if_neg (fun g => hs g.1), if_neg (fun g => hs g.1)]
   rw [e]
   exact ih _ fun y hy => hl y (List.mem_cons_of_mem _ hy)
 exact key c false h
def evB (w : TWindow) (s : ByteArray) (x : TCame) : Bool := sameB x.Singer s && (decide (w.From < x.At) && decide (x.At < w.To))
theorem edges_run (w : TWindow) (s : ByteArray) : ∀ (t : List TCame) (i : Nat) (u : List Int), u.length + t.length ≤ 1000000 → rangeM (m_gleeref2_PresentOf_l1 s w) i t u = some (.brk (u ++ (t.filter (evB w s)).map (·.At))) := by
 intro t
 induction t with
 | nil => intro i u _; simp
 | cons x t ih =>
  intro i u hu
  rw [List.length_cons] at hu
  have hst : m_gleeref2_PresentOf_l1 s w i x u = some (.nxt (if evB w s x = true then u ++ [x.At] else u)) := by
   unfold m_gleeref2_PresentOf_l1 evB
   change ((ifB (sameB x.Singer s) _ _ : Option _).bind _) = _
   cases sameB x.Singer s
   ·rfl
   ·rw [ifB_true]
    cases decide (w.From < x.At)
    ·rfl
    ·rw [ifB_true, Option.bind_some, fin_inl]
     cases decide (x.At < w.To)
     ·rfl
     ·rw [ifB_true, appM_of (by rw [List.length_singleton]; omega) (by omega)]; rfl
  rw [rangeM_cons, hst, Option.bind_some, run_nxt, List.filter_cons]
  by_cases h : evB w s x = true
  ·rw [if_pos h, if_pos h, ih _ _ (by rw [List.length_append, List.length_singleton]; omega)]; simp
  ·rw [if_neg h, if_neg h, ih _ _ (by omega)]
theorem Present_ref (c : List TCame) (s : ByteArray) (w : TWindow) (hc : c.length ≤ 5000) (hw : w.From ≤ w.To) : ∃ R, m_gleeref2_PresentOf c s w = some R ∧ SepX R ∧ (∀ t, covW R t = (hasW w t && thB c s t)) := by
 unfold m_gleeref2_PresentOf
 rw [edges_run w s c 0 [w.From, w.To] (by simp; omega), Option.bind_some, fin_brk]
 have hfl := List.length_filter_le (evB w s) c
 generalize hE0 : [w.From, w.To] ++ (c.filter (evB w s)).map (·.At) = E0
 have hE0l : E0.length ≤ 5002 := by rw [← hE0, List.length_append, List.length_map]; simp; omega
 have hs : m_slices_Sort_int_int E0 = some (E0.mergeSort leI) := by unfold m_slices_Sort_int_int; rw [if_pos (by omega)]; rfl
 have hsl := (sortI_perm E0).length_eq
 have hk : m_slices_Compact_int_int (E0.mergeSort leI) = some (Lib.compact (E0.mergeSort leI)) := by unfold m_slices_Compact_int_int; rw [if_pos (by omega)]
 rw [hs, Option.bind_some, hk, Option.bind_some]
 have hst := compact_strict (sortI_pw E0)
 have hmem : ∀ y, y ∈ Lib.compact (E0.mergeSort leI) ↔ y = w.From ∨ y = w.To ∨ ∃ x ∈ c, x.Singer = s ∧ w.From < x.At ∧ x.At < w.To ∧ y = x.At := by
  intro y
  rw [mem_compactI, (sortI_perm E0).mem_iff, ← hE0, List.mem_append, List.mem_cons, List.mem_singleton, List.mem_map, or_assoc]
  constructor
  ·rintro (h | h | ⟨x, hx, rfl⟩)
   ·exact .inl h
   ·exact .inr (.inl h)
   ·obtain ⟨h1, h2⟩ := List.mem_filter.1 hx
    unfold evB at h2
    rw [Bool.and_eq_true, Bool.and_eq_true, sameB_iff, decide_eq_true_eq, decide_eq_true_eq] at h2
    exact .inr (.inr ⟨x, h1, h2.1, h2.2.1, h2.2.2, rfl⟩)
  ·rintro (h | h | ⟨x, hx, h1, h2, h3, rfl⟩)
   ·exact .inl h
   ·exact .inr (.inl h)
   ·refine .inr (.inr ⟨x, List.mem_filter.2 ⟨hx, ?_⟩, rfl⟩)
    unfold evB
    rw [Bool.and_eq_true, Bool.and_eq_true, sameB_iff, decide_eq_true_eq, decide_eq_true_eq]
    exact ⟨h1, h2, h3⟩
 have hEl : (Lib.compact (E0.mergeSort leI)).length ≤ 5002 := by
  have h1 : (Lib.compact (E0.mergeSort leI)).Nodup := hst.imp fun {a b} hab e => by omega
  have h2 := List.Nodup.length_le_of_subset h1 (fun y hy => mem_compactI.1 hy)
  omega
 generalize Lib.compact (E0.mergeSort leI) = E at hst hmem hEl ⊢
 have hpw := List.pairwise_iff_getElem.1 hst
 have hin : ∀ y ∈ E, w.From ≤ y ∧ y ≤ w.To := fun y hy => by
  rcases (hmem y).1 hy with h | h | ⟨x, _, _, h1, h2, rfl⟩ <;> omega
 have hne : 0 < E.length := List.length_pos_of_mem ((hmem w.From).2 (.inl rfl))
 have hfirst : E[0] = w.From := by
  obtain ⟨j, hj, he⟩ := List.getElem_of_mem ((hmem w.From).2 (.inl rfl))
  have h1 := (hin E[0] (List.getElem_mem ..)).1
  by_cases e : j = 0
  ·subst e; exact he
  ·have := hpw 0 j hne hj (by omega); omega
 have hlast : E[E.length - 1] = w.To := by
  obtain ⟨j, hj, he⟩ := List.getElem_of_mem ((hmem w.To).2 (.inr (.inl rfl)))
  have h1 := (hin (E[E.length - 1]'(by omega)) (List.getElem_mem ..)).2
  by_cases e : j = E.length - 1
  ·subst e; exact he
  ·have := hpw j (E.length - 1) hj (by omega) (by omega); omega
 have hcon : ∀ (i : Nat) (hi : i + 1 < E.length) (t : Int), E[i] ≤ t → t < E[i + 1] → thB c s t = thB c s E[i] := by
  intro i hi t h1 h2
  refine thB_const fun x hx hxs => ⟨fun h => ?_, fun h => by omega⟩
  have h3 := (hin (E[i + 1]'hi) (List.getElem_mem ..)).2
  have h4 := (hin (E[i]'(by omega)) (List.getElem_mem ..)).1
  by_cases h5 : w.From < x.At
  ·have h6 : x.At ∈ E := (hmem x.At).2 (.inr (.inr ⟨x, hx, hxs, h5, by omega, rfl⟩))
   obtain ⟨j, hj, he⟩ := List.getElem_of_mem h6
   by_cases h7 : j ≤ i
   ·by_cases h8 : j = i
    ·subst h8; omega
    ·have := hpw j i hj (by omega) (by omega); omega
   ·by_cases h8 : j = i + 1
    ·subst h8; omega
    ·have := hpw (i + 1) j hi hj (by omega); omega
  ·omega
 obtain ⟨f, h1, h2⟩ := loopM_post (m_gleeref2_PresentOf_l2 c s E)
  (fun u => ∃ i : Nat, ∃ out : List TWindow, u = ((i : Int), out) ∧ ∃ hi : i < E.length, SepX out ∧ out.length ≤ i ∧ (∀ z ∈ out, z.To ≤ E[i]) ∧ ∀ t, covW out t = ((decide (w.From ≤ t) && decide (t < E[i])) && thB c s t))
  (fun u => E.length - u.1.toNat)
  (fun f => match f with | .brk u => SepX u.2 ∧ ∀ t, covW u.2 t = (hasW w t && thB c s t) | _ => False) (by
   rintro u ⟨i, out, rfl, hi, hsx, hol, hto, hcov⟩
   unfold m_gleeref2_PresentOf_l2
   simp only
   rw [w64_id (by omega)]
   by_cases hlt : i + 1 < E.length
   ·have hstep := hpw i (i + 1) hi hlt (by omega)
    have hge := (hin (E[i]'hi) (List.getElem_mem ..)).1
    rw [decide_eq_true (by omega), ifB_true, getI_of rfl (List.getElem?_eq_getElem hi), Option.bind_some, thereAt_s, Option.bind_some]
    cases hth : thB c s E[i] with
    | false =>
     rw [Bool.not_false, ifB_true]
     left
     refine ⟨_, rfl, ⟨i + 1, out, rfl, hlt, hsx, by omega, fun z hz => by have := hto z hz; omega, fun t => ?_⟩, by simp only; omega⟩
     rw [hcov]
     by_cases g1 : t < E[i]
     ·rw [decide_eq_true g1, decide_eq_true (show t < E[i + 1] by omega)]
     ·by_cases g2 : t < E[i + 1]
      ·rw [hcon i hlt t (by omega) g2, hth]; simp
      ·rw [decide_eq_false g1, decide_eq_false g2]
    | true =>
     rw [Bool.not_true, ifB_false]
     have happ : (∀ z ∈ out, z.To < E[i]) → SepX (out ++ [⟨E[i], E[i + 1]⟩]) ∧ (∀ z ∈ out ++ [⟨E[i], E[i + 1]⟩], z.To ≤ E[i + 1]) ∧ ∀ t, covW (out ++ [⟨E[i], E[i + 1]⟩]) t = ((decide (w.From ≤ t) && decide (t < E[i + 1])) && thB c s t) := by
      intro hlt2
      refine ⟨⟨List.pairwise_append.2 ⟨hsx.pw, List.pairwise_singleton _ _, fun a ha b hb => by rw [List.mem_singleton.1 hb]; exact hlt2 a ha⟩, fun z hz => ?_⟩, fun z hz => ?_, fun t => ?_⟩
      ·rcases List.mem_append.1 hz with hz | hz
       ·exact hsx.ok z hz
       ·rw [List.mem_singleton.1 hz]; exact hstep
      ·rcases List.mem_append.1 hz with hz | hz
       ·have := hlt2 z hz; omega
       ·rw [List.mem_singleton.1 hz]; exact Int.le_refl _
      ·rw [cov_snoc, hcov]
       by_cases g1 : t < E[i]
       ·rw [decide_eq_true g1, decide_eq_true (show t < E[i + 1] by omega), show hasW ⟨E[i], E[i + 1]⟩ t = false from Bool.eq_false_iff.2 fun g => by have := hasW_iff.1 g; simp only at this; omega, Bool.or_false]
       ·by_cases g2 : t < E[i + 1]
        ·rw [decide_eq_false g1, decide_eq_true g2, decide_eq_true (show w.From ≤ t by omega), hcon i hlt t (by omega) g2, hth, show hasW ⟨E[i], E[i + 1]⟩ t = true from hasW_iff.2 (by simp only; omega)]; rfl
        ·rw [decide_eq_false g1, decide_eq_false g2, show hasW ⟨E[i], E[i + 1]⟩ t = false from Bool.eq_false_iff.2 fun g => by have := hasW_iff.1 g; simp only at this; omega]; simp
     rcases List.eq_nil_or_concat out with rfl | ⟨r, e, rfl⟩
     ·rw [decide_eq_false (by decide), ifB_false, Option.bind_some, getI_of (n := i + 1) (by omega) (List.getElem?_eq_getElem hlt), Option.bind_some, appM_of (by simp) (by omega)]
      left
      obtain ⟨k1, k2, k3⟩ := happ (fun z hz => by cases hz)
      exact ⟨_, rfl, ⟨i + 1, _, rfl, hlt, k1, by simp, k2, k3⟩, by simp only; omega⟩
     ·rw [List.concat_eq_append] at *
      rw [List.length_append, List.length_singleton] at hol
      have hw64 : w64 (((r ++ [e]).length : Int) - 1) = (r.length : Int) := by rw [List.length_append, List.length_singleton, w64_id (by omega)]; omega
      have hg : getI (r ++ [e]) (r.length : Int) = some e := getI_of rfl (by simp)
      rw [hw64, decide_eq_true (by omega), ifB_true, hg, Option.bind_some, Option.bind_some]
      by_cases heq : e.To = E[i]
      ·rw [show (e.To == E[i]) = true by simpa using heq, ifB_true, getI_of (n := i + 1) (by omega) (List.getElem?_eq_getElem hlt), Option.bind_some, Option.bind_some]
       have e2 : ((r.length : Int)).toNat = r.length := by omega
       rw [e2]
       have hset : (r ++ [e]).set r.length ⟨e.From, E[i + 1]⟩ = r ++ [⟨e.From, E[i + 1]⟩] := by simp
       rw [hset]
       have hpr := List.pairwise_append.1 hsx.pw
       have heo := hsx.ok e (by simp)
       left
       refine ⟨_, rfl, ⟨i + 1, _, rfl, hlt, ⟨List.pairwise_append.2 ⟨hpr.1, List.pairwise_singleton _ _, fun a ha b hb => by rw [List.mem_singleton.1 hb]; exact hpr.2.2 a ha e (by simp)⟩, fun z hz => ?_⟩, by rw [List.length_append, List.length_singleton]; omega, fun z hz => ?_, fun t => ?_⟩, by simp only; omega⟩
       ·rcases List.mem_append.1 hz with hz | hz
        ·exact hsx.ok z (List.mem_append_left _ hz)
        ·rw [List.mem_singleton.1 hz]; simp only; omega
       ·rcases List.mem_append.1 hz with hz | hz
        ·have := hto z (List.mem_append_left _ hz); omega
        ·rw [List.mem_singleton.1 hz]; exact Int.le_refl _
       ·have hc0 := hcov t
        rw [cov_snoc] at hc0 ⊢
        by_cases g1 : t < E[i]
        ·rw [decide_eq_true g1] at hc0
         rw [decide_eq_true (show t < E[i + 1] by omega), ← hc0]
         congr 1
         rw [Bool.eq_iff_iff, hasW_iff, hasW_iff]
         simp only
         omega
        ·have hr0 : covW r t = false := by
          refine List.any_eq_false.2 fun z hz g => ?_
          have := hto z (List.mem_append_left _ hz)
          have := hasW_iff.1 g
          omega
         rw [hr0, Bool.false_or]
         by_cases g2 : t < E[i + 1]
         ·rw [decide_eq_true g2, decide_eq_true (show w.From ≤ t by omega), hcon i hlt t (by omega) g2, hth]
          exact hasW_iff.2 (by simp only; omega)
         ·rw [decide_eq_false g2, show hasW ⟨e.From, E[i + 1]⟩ t = false from Bool.eq_false_iff.2 fun g => by have := hasW_iff.1 g; simp only at this; omega]; simp
      ·rw [show (e.To == E[i]) = false by simpa using heq, ifB_false, getI_of (n := i + 1) (by omega) (List.getElem?_eq_getElem hlt), Option.bind_some, Option.bind_some, appM_of (by simp; omega) (by omega), Option.bind_some]
       left
       have hpr := List.pairwise_append.1 hsx.pw
       obtain ⟨k1, k2, k3⟩ := happ (fun z hz => by
        rcases List.mem_append.1 hz with hz | hz
        ·have h3 := hpr.2.2 z hz e (by simp)
         have h4 := hsx.ok e (by simp)
         have h5 := hto e (by simp)
         omega
        ·rw [List.mem_singleton.1 hz]
         have h5 := hto e (by simp)
         omega)
       exact ⟨_, rfl, ⟨i + 1, _, rfl, hlt, k1, by simp; omega, k2, k3⟩, by simp only; omega⟩
   ·right; left
    rw [decide_eq_false (by omega), ifB_false]
    refine ⟨_, rfl, hsx, fun t => ?_⟩
    simp only
    rw [hcov]
    have hil : i = E.length - 1 := by omega
    subst hil
    rw [hlast]; rfl) (0, []) ⟨0, [], rfl, hne, ⟨List.Pairwise.nil, (fun _ h => by cases h)⟩, Nat.le_refl _, (fun _ h => by cases h), fun t => by
     rw [hfirst]
     by_cases g : w.From ≤ t
     ·rw [decide_eq_false (show ¬ t < w.From by omega)]; simp [covW]
     ·rw [decide_eq_false g]; rfl⟩
 rw [h1, Option.bind_some]
 match f, h2 with
 | .brk u, h2 => exact ⟨u.2, rfl, h2.1, h2.2⟩
theorem Present_eq {c : List TCame} {q : Rows} (hq : Pres c q) (hc : c.length ≤ 5000) (s : ByteArray) (w : TWindow) (hw : w.From ≤ w.To ∧ w.To ≤ 345686400000) : m_gleeref2_PresentOf c s w = some (((lkM q s).getD []).filterMap (clipW w)) := by
 obtain ⟨R, h1, h2, h3⟩ := Present_ref c s w hc hw.1
 obtain ⟨h4, h5⟩ := clip_sep (hq.sep s).1 w
 rw [h1, sep_uniq R _ h2 h4 fun t => by
  rw [h3, h5]
  cases ht : hasW w t with
  | false => rfl
  | true =>
   have := hasW_iff.1 ht
   rw [hq.cov s t (by omega)]]
end Go.G
