/- LY3: which acts count: the reference finds the same. In plain Lean, no program in sight. -/
import Derived.Test.YtdmejijkjgdfaadGreatDoorLY3a
import Derived.Test.YtdmejijkjgdfaadGreatDoorLYq
namespace Go.G
open Go Go.J
set_option linter.unusedSimpArgs false
/-! the reference -/
theorem self_spec (at_ : Int) (l : List TAct) (hl : l.length ≤ 100000) (hat : ∀ x ∈ l, x.At ≤ at_) : ∀ (fu : Nat) (i : Nat) (x : TAct), l[i]? = some x → l.length - i ≤ fu →
    m_gleeref2_CountingOf_1__self fu (i : Int) l = some (cnt at_ x (l.drop (i + 1))) := by
  intro fu
  induction fu with
  | zero => intro i x hx h; have := (List.getElem?_eq_some_iff.1 hx).1; omega
  | succ fu ih =>
    intro i x hx hfu
    have hi := (List.getElem?_eq_some_iff.1 hx).1
    show m_gleeref2_CountingOf_1__self_b (m_gleeref2_CountingOf_1__self fu) (i : Int) l = _
    unfold m_gleeref2_CountingOf_1__self_b
    rw [w64_id (by omega)]
    have hx' : getI l (i : Int) = some x := getI_of rfl hx
    have hxa : x.At ≤ at_ := hat x (List.mem_of_getElem? hx)
    have key := loopM_ind (m_gleeref2_CountingOf_1__self_l1 (i : Int) l (m_gleeref2_CountingOf_1__self fu)) (fun u => ∃ k : Nat, u = k ∧ i < k ∧ k ≤ l.length) (fun u => l.length - u.toNat)
      (fun u => bif und at_ (l.drop u.toNat) (own x) then .ret false else .brk (l.length : Int)) (by
      rintro u ⟨k, rfl, hk1, hk2⟩
      unfold m_gleeref2_CountingOf_1__self_l1
      by_cases hk : k < l.length
      · rw [decide_eq_true (show (k : Int) < (l.length : Int) by omega), ifB_true]
        have hy : l[k]? = some (l[k]'hk) := List.getElem?_eq_getElem hk
        have hy' : getI l (k : Int) = some (l[k]'hk) := getI_of rfl hy
        generalize hyy : l[k]'hk = y at hy hy'
        have hd : l.drop k = y :: l.drop (k + 1) := by rw [List.drop_eq_getElem_cons hk, hyy]
        have e2 : ((getI l (k : Int)).bind fun e8 => ifB (e8.Kind == 7) ((getI l (k : Int)).bind fun e9 => (getI l (i : Int)).bind fun e10 => ifB (e9.Of.toList == e10.Site.toList) ((getI l (k : Int)).bind fun e11 => (getI l (i : Int)).bind fun e12 => ifB (e11.Other == e12.No) ((m_gleeref2_CountingOf_1__self fu (k : Int) l).bind fun y13 => some (.inl y13)) (some (.inl false))) (some (.inl false))) (some (.inl false)) : Option (Bool ⊕ (Flow Int Bool)))
            = some (.inl (cnt at_ y (l.drop (k + 1)) && ((y.Kind == 7) && decide (own x = ⟨y.Of, y.Other⟩)))) := by
          rw [hy', hx', ih k y hy (by omega)]
          simp only [Option.bind_some]
          cases h7 : (y.Kind == 7)
          · simp
          · have e3 : decide (own x = ⟨y.Of, y.Other⟩) = (decide (y.Of = x.Site) && decide (y.Other = x.No)) := by
              unfold own
              rw [Bool.eq_iff_iff]
              simp only [Tclub_own.mk.injEq, decide_eq_true_eq, Bool.and_eq_true]
              exact ⟨fun h => ⟨h.1.symm, h.2.symm⟩, fun h => ⟨h.1.symm, h.2.symm⟩⟩
            rw [e3]
            by_cases h1 : y.Of = x.Site
            · rw [show (y.Of.toList == x.Site.toList) = true by rw [h1]; simp, decide_eq_true h1]
              by_cases h2 : y.Other = x.No
              · rw [show (y.Other == x.No) = true by simpa using h2, decide_eq_true h2]; simp
              · rw [show (y.Other == x.No) = false by simpa using h2, decide_eq_false h2]; simp
            · rw [show (y.Of.toList == x.Site.toList) = false by
                rw [Bool.eq_false_iff]; intro e; exact h1 (ba_toList_inj.1 (by simpa using e)), decide_eq_false h1]; simp
        rw [e2, Option.bind_some, fin_inl]
        have e4 : und at_ (l.drop ((k : Int)).toNat) (own x) = (und at_ (l.drop (k + 1)) (own x) || (cnt at_ y (l.drop (k + 1)) && ((y.Kind == 7) && decide (own x = ⟨y.Of, y.Other⟩)))) := by
          rw [Int.toNat_natCast, hd, und_cons]
        simp only [e4]
        cases hc : (cnt at_ y (l.drop (k + 1)) && ((y.Kind == 7) && decide (own x = ⟨y.Of, y.Other⟩)))
        · left
          refine ⟨((k + 1 : Nat) : Int), by rw [ifB_false, w64_id (by omega)]; rfl, ⟨k + 1, rfl, by omega, by omega⟩, by simp only [Int.toNat_natCast]; omega, ?_⟩
          rw [Bool.or_false, Int.toNat_natCast]
        · right; right
          exact ⟨false, rfl, by rw [Bool.or_true]; rfl⟩
      · right; left
        have : k = l.length := by omega
        subst this
        rw [decide_eq_false (by omega), ifB_false]
        exact ⟨_, rfl, by rw [Int.toNat_natCast, List.drop_length]; rfl⟩) ((i : Int) + 1) ⟨i + 1, by simp, by omega, by omega⟩
    rw [key, Option.bind_some, show ((i : Int) + 1).toNat = i + 1 by omega]
    unfold cnt
    rw [decide_eq_true hxa]
    cases und at_ (l.drop (i + 1)) (own x) <;> rfl
theorem und_filter (at_ : Int) : ∀ (l : List TAct) (k : Tclub_own), und at_ (l.filter fun x => decide (x.At ≤ at_)) k = und at_ l k := by
  intro l
  induction l with
  | nil => intro k; rfl
  | cons x t ih =>
    intro k
    by_cases h : x.At ≤ at_
    · rw [List.filter_cons_of_pos (by simpa using h), und_cons, und_cons, ih]
      unfold cnt
      rw [ih]
    · rw [List.filter_cons_of_neg (by simpa using h), und_cons, ih]
      unfold cnt
      rw [decide_eq_false h]; simp
theorem cntIx_none (at_ : Int) : ∀ (l : List TAct) (i : Nat), (∀ x ∈ l, ¬ x.At ≤ at_) → cntIx at_ i l = [] := by
  intro l
  induction l with
  | nil => intro i _; rfl
  | cons x t ih =>
    intro i h
    unfold cntIx cnt
    rw [decide_eq_false (h x (List.mem_cons_self ..)), ih _ fun y hy => h y (List.mem_cons_of_mem _ hy)]; rfl
theorem cntIx_filter (at_ : Int) : ∀ (l : List TAct) (i : Nat), l.Pairwise (fun x y => x.At ≤ y.At) → cntIx at_ i (l.filter fun x => decide (x.At ≤ at_)) = cntIx at_ i l := by
  intro l
  induction l with
  | nil => intro i _; rfl
  | cons x t ih =>
    intro i hp
    rw [List.pairwise_cons] at hp
    by_cases h : x.At ≤ at_
    · rw [List.filter_cons_of_pos (by simpa using h)]
      unfold cntIx
      rw [ih _ hp.2]
      unfold cnt
      rw [und_filter]
    · rw [List.filter_cons_of_neg (by simpa using h), List.filter_eq_nil_iff.2 (fun y hy => by have := hp.1 y hy; simp; omega), cntIx_none at_ (x :: t) i (fun y hy => by
        rcases List.mem_cons.1 hy with rfl | hy
        · exact h
        · have := hp.1 y hy; omega)]
      rfl
theorem CountingOf_spec (l : List TAct) (at_ : Int) (h : ActsOK l) : m_gleeref2_CountingOf l at_ = some (cntIx at_ 0 l) := by
  have hl := h.len
  unfold m_gleeref2_CountingOf
  rw [rangeM_filterMap _ (fun x => if x.At ≤ at_ then some x else none) l (by
    intro i x s hx hs
    have hi := (List.getElem?_eq_some_iff.1 hx).1
    unfold m_gleeref2_CountingOf_l1
    by_cases hx : x.At ≤ at_
    · rw [decide_eq_true hx, ifB_true, appM_of (by simp; omega) (by omega)]; simp [hx]
    · rw [decide_eq_false hx, ifB_false]; simp [hx])]
  rw [Option.bind_some, fin_brk]
  have e1 : (l.filterMap fun x => if x.At ≤ at_ then some x else none) = l.filter fun x => decide (x.At ≤ at_) := by
    rw [← List.filterMap_eq_filter]
    congr 1
    funext x
    by_cases hx : x.At ≤ at_ <;> simp [hx, Option.guard]
  rw [e1, ← cntIx_filter at_ l 0 (ord_pw h.ord)]
  generalize hL : (l.filter fun x => decide (x.At ≤ at_)) = L
  have hLl : L.length ≤ 2000 := by rw [← hL]; exact Nat.le_trans (List.length_filter_le ..) hl
  have hat : ∀ x ∈ L, x.At ≤ at_ := fun x hx => by rw [← hL] at hx; simpa using (List.mem_filter.1 hx).2
  have key : ∀ (t : List TAct) (i : Nat) (s : List Int), L.drop i = t → s.length ≤ i → rangeM (m_gleeref2_CountingOf_l2 L) i t s = some (.brk (s ++ cntIx at_ i t)) := by
    intro t
    induction t with
    | nil => intro i s _ _; simp [cntIx]
    | cons x t ih =>
      intro i s hd hs
      have hx : L[i]? = some x := by
        have : (L.drop i)[0]? = some x := by rw [hd]; rfl
        simpa using this
      have hi := (List.getElem?_eq_some_iff.1 hx).1
      have hd' : L.drop (i + 1) = t := by rw [← List.drop_drop, hd]; rfl
      have hst : m_gleeref2_CountingOf_l2 L i x s = some (.nxt (s ++ bif cnt at_ x t then [(i : Int)] else [])) := by
        unfold m_gleeref2_CountingOf_l2
        rw [self_spec at_ L (by omega) hat FUEL i x hx (by unfold FUEL; omega), Option.bind_some, hd']
        cases cnt at_ x t
        · simp
        · rw [ifB_true, appM_of (by simp; omega) (by omega)]; rfl
      rw [rangeM_cons, hst, Option.bind_some, run_nxt, ih (i + 1) _ hd' (by cases cnt at_ x t <;> simp <;> omega)]
      simp [cntIx]
  rw [key L 0 [] rfl (by simp), Option.bind_some, fin_brk]; simp
end Go.G
