/- LY3: which acts count: what the program's counting and the reference's find. In plain Lean, no program in sight. -/
import Derived.Test.YtnhgkhhceokibaaGreatDoorLY2
namespace Go.G
open Go Go.J
set_option linter.unusedSimpArgs false
theorem ReverseI_spec (xs : List Int) (hl : xs.length ≤ 1000000) : m_slices_Reverse_int_int xs = some xs.reverse := by
  unfold m_slices_Reverse_int_int
  rw [w64_id (by omega)]
  obtain ⟨f, h1, h2⟩ := loopM_post m_slices_Reverse_int_int_l1
    (fun s => ∃ i : Nat, s.1 = i ∧ s.2.1 = (xs.length : Int) - 1 - i ∧ i ≤ xs.length ∧ s.2.2.length = xs.length ∧ ∀ k, k < xs.length → s.2.2[k]? = if k < i ∨ xs.length < k + i + 1 then xs[xs.length - 1 - k]? else xs[k]?)
    (fun s => xs.length - s.1.toNat) (fun f => ∃ a b, f = .brk (a, b, xs.reverse)) (by
      rintro ⟨i', j', ys⟩ ⟨i, rfl, rfl, hi, hys, hk⟩
      simp only at hys hk
      unfold m_slices_Reverse_int_int_l1
      by_cases hlt : (i : Int) < (xs.length : Int) - 1 - i
      · left
        have hjn : (xs.length : Int) - 1 - i = ((xs.length - 1 - i : Nat) : Int) := by omega
        have g1 : getI ys (i : Int) = some (ys[i]'(by omega)) := getI_of (n := i) rfl (List.getElem?_eq_getElem (by omega))
        have g2 : getI ys ((xs.length - 1 - i : Nat) : Int) = some (ys[xs.length - 1 - i]'(by omega)) := getI_of rfl (List.getElem?_eq_getElem (by omega))
        have g3 : ∃ z, getI (ys.set i (ys[xs.length - 1 - i]'(by omega))) ((xs.length - 1 - i : Nat) : Int) = some z := ⟨_, getI_of rfl (List.getElem?_eq_getElem (by simp; omega))⟩
        obtain ⟨z, g3⟩ := g3
        have hlt' : (i : Int) < ((xs.length - 1 - i : Nat) : Int) := by omega
        simp only [hjn, decide_eq_true hlt', ifB_true, g1, g2, Option.bind_some, Int.toNat_natCast, g3]
        refine ⟨_, rfl, ⟨i + 1, by rw [w64_id (by omega)]; rfl, by simp only; rw [w64_id (by omega)]; omega, by omega, by simp [hys], ?_⟩, by simp only; rw [w64_id (by omega)]; omega⟩
        intro k hkl
        have a1 := hk i (by omega)
        have a2 := hk (xs.length - 1 - i) (by omega)
        rw [if_neg (by omega)] at a1 a2
        have b1 : ys[i]'(by omega) = xs[i]'(by omega) := by
          rw [List.getElem?_eq_getElem (by omega), List.getElem?_eq_getElem (by omega)] at a1
          exact Option.some.inj a1
        have b2 : ys[xs.length - 1 - i]'(by omega) = xs[xs.length - 1 - i]'(by omega) := by
          rw [List.getElem?_eq_getElem (by omega), List.getElem?_eq_getElem (by omega)] at a2
          exact Option.some.inj a2
        simp only [List.getElem?_set]
        by_cases c1 : xs.length - 1 - i = k
        · subst c1
          rw [if_pos rfl, if_pos (by simp; omega), if_pos (by omega), b1]
          have : xs.length - 1 - (xs.length - 1 - i) = i := by omega
          rw [this, List.getElem?_eq_getElem (by omega)]
        · rw [if_neg c1]
          by_cases c2 : i = k
          · subst c2
            rw [if_pos rfl, if_pos (by omega), if_pos (by omega), b2, List.getElem?_eq_getElem (by omega)]
          · rw [if_neg c2, hk k hkl]
            by_cases c3 : k < i ∨ xs.length < k + i + 1
            · rw [if_pos c3, if_pos (by omega)]
            · rw [if_neg c3, if_neg (by omega)]
      · right; left
        simp only [decide_eq_false hlt, ifB_false]
        refine ⟨_, rfl, _, _, congrArg Flow.brk (Prod.ext rfl (Prod.ext rfl ?_))⟩
        apply List.ext_getElem?
        intro k
        by_cases hkl : k < xs.length
        · rw [hk k hkl, List.getElem?_reverse hkl]
          split
          · rfl
          · have : xs.length - 1 - k = k := by omega
            rw [this]
        · rw [List.getElem?_eq_none (by simp only; omega), List.getElem?_eq_none (by simp; omega)]) (0, (xs.length : Int) - 1, xs) ⟨0, rfl, by simp, Nat.zero_le _, rfl, fun k hk => by rw [if_neg (by omega)]⟩
  obtain ⟨a, b, rfl⟩ := h2
  rw [h1]; rfl
theorem rangeB_suf {α σ ρ : Type} (step : Nat → α → σ → Option (Flow σ ρ)) (xs : List α) (I : List α → σ → Prop)
    (h : ∀ pre x t s, xs = pre ++ x :: t → I t s → ∃ s', step pre.length x s = some (.nxt s') ∧ I (x :: t) s') (s : σ) (h0 : I [] s) : ∃ s', rangeB step xs s = some (.brk s') ∧ I xs s' := by
  obtain ⟨s', h1, h2⟩ := rangeM_invx (fun j x s => step (xs.length - 1 - j) x s) xs.reverse (fun j s => I (xs.drop (xs.length - j)) s) (by
    intro j x s hx hI
    have hj : j < xs.length := by simpa using (List.getElem?_eq_some_iff.1 hx).1
    have e1 : xs[xs.length - 1 - j]? = some x := by rw [← hx, List.getElem?_reverse hj]
    have e2 : xs = xs.take (xs.length - 1 - j) ++ x :: xs.drop (xs.length - j) := by
      have := List.take_append_drop (xs.length - 1 - j) xs
      conv => lhs; rw [← this]
      congr 1
      obtain ⟨hk, e⟩ := List.getElem?_eq_some_iff.1 e1
      rw [List.drop_eq_getElem_cons hk, e, show xs.length - 1 - j + 1 = xs.length - j by omega]
    have e3 : (xs.take (xs.length - 1 - j)).length = xs.length - 1 - j := by simp; omega
    obtain ⟨s', g1, g2⟩ := h _ x _ s e2 hI
    refine ⟨s', by rw [e3] at g1; exact g1, ?_⟩
    have e4 : xs.drop (xs.length - (j + 1)) = x :: xs.drop (xs.length - j) := by
      obtain ⟨hk, e⟩ := List.getElem?_eq_some_iff.1 e1
      rw [show xs.length - (j + 1) = xs.length - 1 - j by omega, List.drop_eq_getElem_cons hk, e, show xs.length - 1 - j + 1 = xs.length - j by omega]
    rw [e4]; exact g2) s (by simpa using h0)
  exact ⟨s', h1, by simpa using h2⟩
/-- whether acts that count undo one -/
def und (at_ : Int) : List TAct → Tclub_own → Bool
  | [], _ => false
  | x :: t, k => und at_ t k || (decide (x.At ≤ at_) && !und at_ t (own x) && (x.Kind == 7) && decide (k = ⟨x.Of, x.Other⟩))
def cnt (at_ : Int) (x : TAct) (t : List TAct) : Bool := decide (x.At ≤ at_) && !und at_ t (own x)
def cntIx (at_ : Int) : Nat → List TAct → List Int
  | _, [] => []
  | i, x :: t => (bif cnt at_ x t then [(i : Int)] else []) ++ cntIx at_ (i + 1) t
theorem und_cons (at_ : Int) (x : TAct) (t : List TAct) (k : Tclub_own) : und at_ (x :: t) k = (und at_ t k || (cnt at_ x t && ((x.Kind == 7) && decide (k = ⟨x.Of, x.Other⟩)))) := by
  rw [und]; unfold cnt; rw [Bool.and_assoc (decide (x.At ≤ at_) && !und at_ t (own x))]
theorem cntIx_len (at_ : Int) : ∀ (t : List TAct) (i : Nat), (cntIx at_ i t).length ≤ t.length := by
  intro t
  induction t with
  | nil => intro i; simp [cntIx]
  | cons x t ih =>
    intro i
    have := ih (i + 1)
    unfold cntIx
    cases cnt at_ x t <;> simp <;> omega
theorem cntIx_mem (at_ : Int) : ∀ (t : List TAct) (i : Nat) (z : Int), z ∈ cntIx at_ i t → ∃ j : Nat, z = (i + j : Nat) ∧ j < t.length := by
  intro t
  induction t with
  | nil => intro i z hz; cases hz
  | cons x t ih =>
    intro i z hz
    unfold cntIx at hz
    rcases List.mem_append.1 hz with h | h
    · cases hc : cnt at_ x t
      · rw [hc] at h; cases h
      · rw [hc] at h
        simp at h
        exact ⟨0, by simpa using h, by simp⟩
    · obtain ⟨j, rfl, hj⟩ := ih (i + 1) z h
      exact ⟨j + 1, by congr 1; omega, by simp; omega⟩
theorem counting_spec (l : List TAct) (at_ : Int) (hl : l.length ≤ 100000) : m_club_counting l at_ = some (cntIx at_ 0 l) := by
  unfold m_club_counting
  obtain ⟨s, h1, h2, h3⟩ := rangeB_suf (m_club_counting_l1 at_) l (fun t s => (∀ k, (lkM s.1 k).getD false = und at_ t k) ∧ s.2 = (cntIx at_ (l.length - t.length) t).reverse) (by
    rintro pre x t ⟨u, v⟩ hx ⟨hu, hv⟩
    simp only at hu hv
    have hlen : pre.length + (t.length + 1) = l.length := by rw [hx]; simp
    have e0 : l.length - t.length = pre.length + 1 := by omega
    have e1 : l.length - (x :: t).length = pre.length := by simp; omega
    have hv' : v.length ≤ t.length := by rw [hv, List.length_reverse]; exact cntIx_len _ _ _
    unfold m_club_counting_l1
    have e2 : (ifB (decide (x.At > at_)) (some (.inl true)) (some (.inl ((lkM u (Tclub_own.mk x.Site x.No)).getD false))) : Option (Bool ⊕ (Flow ((List (Tclub_own × Bool)) × (List Int)) (List Int)))) = some (.inl (!cnt at_ x t)) := by
      rw [show Tclub_own.mk x.Site x.No = own x from rfl, hu]
      unfold cnt
      by_cases h : x.At > at_
      · rw [decide_eq_true h, decide_eq_false (show ¬ x.At ≤ at_ by omega)]; rfl
      · rw [decide_eq_false h, decide_eq_true (show x.At ≤ at_ by omega)]; simp
    rw [e2, Option.bind_some, fin_inl, e1]
    rw [e0] at hv
    cases hc : cnt at_ x t
    · simp only [Bool.not_false, ifB_true]
      refine ⟨_, rfl, fun k => by rw [und_cons, hc, hu]; simp, ?_⟩
      simp only [cntIx, hc, cond_false, List.nil_append]; exact hv
    · rw [Bool.not_true, ifB_false, appM_of (by simp; omega) (by omega), Option.bind_some]
      have e3 : v ++ [(pre.length : Int)] = (cntIx at_ pre.length (x :: t)).reverse := by
        simp only [cntIx, hc, cond_true]; rw [List.reverse_append, ← hv]; rfl
      cases h7 : (x.Kind == 7)
      · rw [ifB_false]
        exact ⟨_, rfl, fun k => by rw [und_cons, hc, hu, h7]; simp, e3⟩
      · rw [ifB_true]
        refine ⟨_, rfl, fun k => ?_, e3⟩
        simp only
        rw [und_cons, hc, h7, lkM_put]
        by_cases hk : k = ⟨x.Of, x.Other⟩
        · rw [if_pos hk]; simp [hk]
        · rw [if_neg hk, hu]; simp [hk]) ([], []) ⟨fun k => by simp [lkM, und], by simp [cntIx]⟩
  rw [h1, Option.bind_some, fin_brk, h3]
  have hlen := cntIx_len at_ l 0
  rw [Nat.sub_self, ReverseI_spec _ (by simp; omega), Option.bind_some, List.reverse_reverse]
/-! the reference -/
theorem self_spec (at_ : Int) (l : List TAct) (hl : l.length ≤ 100000) (hat : ∀ x ∈ l, x.At ≤ at_) : ∀ (fu : Nat) (i : Nat) (x : TAct), l[i]? = some x → l.length - i ≤ fu →
    m_gleeref2_CountingOf_1__self fu (i : Int) l = some (cnt at_ x (l.drop (i + 1))) := by
  intro fu
  induction fu with
  | zero => intro i x hx h; have := (List.getElem?_eq_some_iff.1 hx).1; omega
  | succ fu ih =>
    intro i x hx hfu
    have hi := (List.getElem?_eq_some_iff.1 hx).1
    show m_gleeref2_CountingOf_1__self_b (m_gleeref2_CountingOf_1__self fu) (i : Int) l = _
    unfold m_gleeref2_CountingOf_1__self_b
    rw [w64_id (by omega)]
    have hx' : getI l (i : Int) = some x := getI_of rfl hx
    have hxa : x.At ≤ at_ := hat x (List.mem_of_getElem? hx)
    have key := loopM_ind (m_gleeref2_CountingOf_1__self_l1 (i : Int) l (m_gleeref2_CountingOf_1__self fu)) (fun u => ∃ k : Nat, u = k ∧ i < k ∧ k ≤ l.length) (fun u => l.length - u.toNat)
      (fun u => bif und at_ (l.drop u.toNat) (own x) then .ret false else .brk (l.length : Int)) (by
      rintro u ⟨k, rfl, hk1, hk2⟩
      unfold m_gleeref2_CountingOf_1__self_l1
      by_cases hk : k < l.length
      · rw [decide_eq_true (show (k : Int) < (l.length : Int) by omega), ifB_true]
        have hy : l[k]? = some (l[k]'hk) := List.getElem?_eq_getElem hk
        have hy' : getI l (k : Int) = some (l[k]'hk) := getI_of rfl hy
        generalize hyy : l[k]'hk = y at hy hy'
        have hd : l.drop k = y :: l.drop (k + 1) := by rw [List.drop_eq_getElem_cons hk, hyy]
        have e2 : ((getI l (k : Int)).bind fun e8 => ifB (e8.Kind == 7) ((getI l (k : Int)).bind fun e9 => (getI l (i : Int)).bind fun e10 => ifB (e9.Of.toList == e10.Site.toList) ((getI l (k : Int)).bind fun e11 => (getI l (i : Int)).bind fun e12 => ifB (e11.Other == e12.No) ((m_gleeref2_CountingOf_1__self fu (k : Int) l).bind fun y13 => some (.inl y13)) (some (.inl false))) (some (.inl false))) (some (.inl false)) : Option (Bool ⊕ (Flow Int Bool)))
            = some (.inl (cnt at_ y (l.drop (k + 1)) && ((y.Kind == 7) && decide (own x = ⟨y.Of, y.Other⟩)))) := by
          rw [hy', hx', ih k y hy (by omega)]
          simp only [Option.bind_some]
          cases h7 : (y.Kind == 7)
          · simp
          · have e3 : decide (own x = ⟨y.Of, y.Other⟩) = (decide (y.Of = x.Site) && decide (y.Other = x.No)) := by
              unfold own
              rw [Bool.eq_iff_iff]
              simp only [Tclub_own.mk.injEq, decide_eq_true_eq, Bool.and_eq_true]
              exact ⟨fun h => ⟨h.1.symm, h.2.symm⟩, fun h => ⟨h.1.symm, h.2.symm⟩⟩
            rw [e3]
            by_cases h1 : y.Of = x.Site
            · rw [show (y.Of.toList == x.Site.toList) = true by rw [h1]; simp, decide_eq_true h1]
              by_cases h2 : y.Other = x.No
              · rw [show (y.Other == x.No) = true by simpa using h2, decide_eq_true h2]; simp
              · rw [show (y.Other == x.No) = false by simpa using h2, decide_eq_false h2]; simp
            · rw [show (y.Of.toList == x.Site.toList) = false by
                rw [Bool.eq_false_iff]; intro e; exact h1 (ba_toList_inj.1 (by simpa using e)), decide_eq_false h1]; simp
        rw [e2, Option.bind_some, fin_inl]
        have e4 : und at_ (l.drop ((k : Int)).toNat) (own x) = (und at_ (l.drop (k + 1)) (own x) || (cnt at_ y (l.drop (k + 1)) && ((y.Kind == 7) && decide (own x = ⟨y.Of, y.Other⟩)))) := by
          rw [Int.toNat_natCast, hd, und_cons]
        simp only [e4]
        cases hc : (cnt at_ y (l.drop (k + 1)) && ((y.Kind == 7) && decide (own x = ⟨y.Of, y.Other⟩)))
        · left
          refine ⟨((k + 1 : Nat) : Int), by rw [ifB_false, w64_id (by omega)]; rfl, ⟨k + 1, rfl, by omega, by omega⟩, by simp only [Int.toNat_natCast]; omega, ?_⟩
          rw [Bool.or_false, Int.toNat_natCast]
        · right; right
          exact ⟨false, rfl, by rw [Bool.or_true]; rfl⟩
      · right; left
        have : k = l.length := by omega
        subst this
        rw [decide_eq_false (by omega), ifB_false]
        exact ⟨_, rfl, by rw [Int.toNat_natCast, List.drop_length]; rfl⟩) ((i : Int) + 1) ⟨i + 1, by simp, by omega, by omega⟩
    rw [key, Option.bind_some, show ((i : Int) + 1).toNat = i + 1 by omega]
    unfold cnt
    rw [decide_eq_true hxa]
    cases und at_ (l.drop (i + 1)) (own x) <;> rfl
theorem und_filter (at_ : Int) : ∀ (l : List TAct) (k : Tclub_own), und at_ (l.filter fun x => decide (x.At ≤ at_)) k = und at_ l k := by
  intro l
  induction l with
  | nil => intro k; rfl
  | cons x t ih =>
    intro k
    by_cases h : x.At ≤ at_
    · rw [List.filter_cons_of_pos (by simpa using h), und_cons, und_cons, ih]
      unfold cnt
      rw [ih]
    · rw [List.filter_cons_of_neg (by simpa using h), und_cons, ih]
      unfold cnt
      rw [decide_eq_false h]; simp
theorem cntIx_none (at_ : Int) : ∀ (l : List TAct) (i : Nat), (∀ x ∈ l, ¬ x.At ≤ at_) → cntIx at_ i l = [] := by
  intro l
  induction l with
  | nil => intro i _; rfl
  | cons x t ih =>
    intro i h
    unfold cntIx cnt
    rw [decide_eq_false (h x (List.mem_cons_self ..)), ih _ fun y hy => h y (List.mem_cons_of_mem _ hy)]; rfl
theorem cntIx_filter (at_ : Int) : ∀ (l : List TAct) (i : Nat), l.Pairwise (fun x y => x.At ≤ y.At) → cntIx at_ i (l.filter fun x => decide (x.At ≤ at_)) = cntIx at_ i l := by
  intro l
  induction l with
  | nil => intro i _; rfl
  | cons x t ih =>
    intro i hp
    rw [List.pairwise_cons] at hp
    by_cases h : x.At ≤ at_
    · rw [List.filter_cons_of_pos (by simpa using h)]
      unfold cntIx
      rw [ih _ hp.2]
      unfold cnt
      rw [und_filter]
    · rw [List.filter_cons_of_neg (by simpa using h), List.filter_eq_nil_iff.2 (fun y hy => by have := hp.1 y hy; simp; omega), cntIx_none at_ (x :: t) i (fun y hy => by
        rcases List.mem_cons.1 hy with rfl | hy
        · exact h
        · have := hp.1 y hy; omega)]
      rfl
theorem cmpA_at {x y : TAct} (h : cmpA x y < 0) : x.At ≤ y.At := by
  unfold cmpA at h
  by_cases h1 : x.At ≤ y.At
  · exact h1
  · have : cI x.At y.At = 1 := by unfold cI; rw [decide_eq_false (by omega), decide_eq_true (by omega)]; rfl
    rw [this] at h
    rw [show ((1 : Int) != 0) = true from rfl, cond_true] at h
    omega
theorem ord_pw {l : List TAct} (h : ∀ (i : Nat) x y, l[i]? = some x → l[i + 1]? = some y → cmpA x y < 0) : l.Pairwise (fun x y => x.At ≤ y.At) := by
  induction l with
  | nil => exact .nil
  | cons x t ih =>
    have ht := ih fun i a b ha hb => h (i + 1) a b (by simpa using ha) (by simpa using hb)
    rw [List.pairwise_cons]
    refine ⟨fun y hy => ?_, ht⟩
    cases t with
    | nil => cases hy
    | cons z t =>
      have hz := cmpA_at (h 0 x z rfl rfl)
      rcases List.mem_cons.1 hy with rfl | hy
      · exact hz
      · have := (List.pairwise_cons.1 ht).1 y hy
        omega
theorem CountingOf_spec (l : List TAct) (at_ : Int) (h : ActsOK l) : m_gleeref2_CountingOf l at_ = some (cntIx at_ 0 l) := by
  have hl := h.len
  unfold m_gleeref2_CountingOf
  rw [rangeM_filterMap _ (fun x => if x.At ≤ at_ then some x else none) l (by
    intro i x s hx hs
    have hi := (List.getElem?_eq_some_iff.1 hx).1
    unfold m_gleeref2_CountingOf_l1
    by_cases hx : x.At ≤ at_
    · rw [decide_eq_true hx, ifB_true, appM_of (by simp; omega) (by omega)]; simp [hx]
    · rw [decide_eq_false hx, ifB_false]; simp [hx])]
  rw [Option.bind_some, fin_brk]
  have e1 : (l.filterMap fun x => if x.At ≤ at_ then some x else none) = l.filter fun x => decide (x.At ≤ at_) := by
    rw [← List.filterMap_eq_filter]
    congr 1
    funext x
    by_cases hx : x.At ≤ at_ <;> simp [hx, Option.guard]
  rw [e1, ← cntIx_filter at_ l 0 (ord_pw h.ord)]
  generalize hL : (l.filter fun x => decide (x.At ≤ at_)) = L
  have hLl : L.length ≤ 2000 := by rw [← hL]; exact Nat.le_trans (List.length_filter_le ..) hl
  have hat : ∀ x ∈ L, x.At ≤ at_ := fun x hx => by rw [← hL] at hx; simpa using (List.mem_filter.1 hx).2
  have key : ∀ (t : List TAct) (i : Nat) (s : List Int), L.drop i = t → s.length ≤ i → rangeM (m_gleeref2_CountingOf_l2 L) i t s = some (.brk (s ++ cntIx at_ i t)) := by
    intro t
    induction t with
    | nil => intro i s _ _; simp [cntIx]
    | cons x t ih =>
      intro i s hd hs
      have hx : L[i]? = some x := by
        have : (L.drop i)[0]? = some x := by rw [hd]; rfl
        simpa using this
      have hi := (List.getElem?_eq_some_iff.1 hx).1
      have hd' : L.drop (i + 1) = t := by rw [← List.drop_drop, hd]; rfl
      have hst : m_gleeref2_CountingOf_l2 L i x s = some (.nxt (s ++ bif cnt at_ x t then [(i : Int)] else [])) := by
        unfold m_gleeref2_CountingOf_l2
        rw [self_spec at_ L (by omega) hat FUEL i x hx (by unfold FUEL; omega), Option.bind_some, hd']
        cases cnt at_ x t
        · simp
        · rw [ifB_true, appM_of (by simp; omega) (by omega)]; rfl
      rw [rangeM_cons, hst, Option.bind_some, run_nxt, ih (i + 1) _ hd' (by cases cnt at_ x t <;> simp <;> omega)]
      simp [cntIx]
  rw [key L 0 [] rfl (by simp), Option.bind_some, fin_brk]; simp
end Go.G
