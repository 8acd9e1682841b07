/- LO1: searches through all orders of a list: what they find. In plain Lean, no program in sight. -/
import Derived.Test.YtlkpfhdlfapfhabGreatDoorL0
import Derived.Sort.Walk0
namespace Go.G
open Go Go.J
/-- how good something is: two numbers, then words -/
structure Rk where
  a : Int
  b : Int
  k : List (List UInt8)
def Rk.lt (x y : Rk) : Prop := x.a < y.a ∨ x.a = y.a ∧ (x.b < y.b ∨ x.b = y.b ∧ x.k < y.k)
instance (x y : Rk) : Decidable (x.lt y) := by unfold Rk.lt; infer_instance
theorem Rk.irrefl (x : Rk) : ¬ x.lt x := by
  rintro (h | ⟨-, h | ⟨-, h⟩⟩)
  · omega
  · omega
  · exact List.lt_irrefl _ h
theorem Rk.trans {x y z : Rk} (h : x.lt y) (h' : y.lt z) : x.lt z := by
  rcases h with h | ⟨e, h⟩ <;> rcases h' with h' | ⟨e', h'⟩
  · exact .inl (by omega)
  · exact .inl (by omega)
  · exact .inl (by omega)
  · refine .inr ⟨by omega, ?_⟩
    rcases h with h | ⟨f, h⟩ <;> rcases h' with h' | ⟨f', h'⟩
    · exact .inl (by omega)
    · exact .inl (by omega)
    · exact .inl (by omega)
    · exact .inr ⟨by omega, List.lt_trans h h'⟩
variable {α : Type}
/-- the better one of what was found and one more -/
def best1 (f : α → Rk) (b : Option α) (x : α) : Option α :=
  match b with
  | none => some x
  | some y => if (f x).lt (f y) then some x else some y
theorem best_fold (f : α → Rk) : ∀ (l : List α) (b : Option α) (S : List α), (∀ y, b = some y → y ∈ S ∧ ∀ x ∈ S, ¬ (f x).lt (f y)) → (b = none → S = []) →
    (∀ y, l.foldl (best1 f) b = some y → y ∈ S ++ l ∧ ∀ x ∈ S ++ l, ¬ (f x).lt (f y)) ∧ (l.foldl (best1 f) b = none → S ++ l = []) := by
  intro l
  induction l with
  | nil => intro b S h h0; simp only [List.foldl_nil, List.append_nil]; exact ⟨h, h0⟩
  | cons x l ih =>
    intro b S h h0
    rw [List.foldl_cons, show S ++ x :: l = (S ++ [x]) ++ l by simp]
    refine ih _ _ ?_ ?_
    · cases b with
      | none => intro y hy; cases hy; rw [h0 rfl]; simp [Rk.irrefl]
      | some z =>
        intro y hy
        unfold best1 at hy
        simp only at hy
        obtain ⟨h1, h2⟩ := h z rfl
        split at hy
        · rename_i hlt
          cases hy
          refine ⟨by simp, fun u hu => ?_⟩
          rcases List.mem_append.1 hu with q | q
          · exact fun g => h2 u q (Rk.trans g hlt)
          · simp at q; subst q; exact Rk.irrefl _
        · rename_i hlt
          cases hy
          refine ⟨by simp [h1], fun u hu => ?_⟩
          rcases List.mem_append.1 hu with q | q
          · exact h2 u q
          · simp at q; subst q; exact hlt
    · cases b with
      | none => intro hy; cases hy
      | some z => intro hy; unfold best1 at hy; simp only at hy; split at hy <;> cases hy
/-- two things of a list change their places -/
def swp (l : List α) (i j : Nat) : List α :=
  match l[i]?, l[j]? with
  | some x, some y => (l.set i y).set j x
  | _, _ => l
theorem swp_of {l : List α} {i j : Nat} {x y : α} (hx : l[i]? = some x) (hy : l[j]? = some y) : swp l i j = (l.set i y).set j x := by unfold swp; rw [hx, hy]
theorem swp_len (l : List α) (i j : Nat) : (swp l i j).length = l.length := by unfold swp; split <;> simp
theorem swp_get {l : List α} {i j : Nat} (hi : i < l.length) (hj : j < l.length) (k : Nat) : (swp l i j)[k]? = if k = j then l[i]? else if k = i then l[j]? else l[k]? := by
  rw [swp_of (List.getElem?_eq_getElem hi) (List.getElem?_eq_getElem hj)]
  rw [List.getElem?_set, List.getElem?_set]
  by_cases h1 : k = j
  · subst h1; simp [hi, hj]
  · by_cases h2 : k = i
    · subst h2; simp [hi, h1, Ne.symm h1]
    · simp [h1, h2, Ne.symm h1, Ne.symm h2]
theorem swp_swp {l : List α} {i j : Nat} (hi : i < l.length) (hj : j < l.length) : swp (swp l i j) i j = l := by
  apply List.ext_getElem?
  intro k
  rw [swp_get (by rw [swp_len]; exact hi) (by rw [swp_len]; exact hj), swp_get hi hj, swp_get hi hj, swp_get hi hj]
  by_cases h1 : k = j
  · subst h1
    by_cases h2 : i = k
    · subst h2; simp
    · simp [h2]
  · by_cases h2 : k = i
    · subst h2; simp [h1]
    · simp [h1, h2]
theorem swp_perm {l : List α} {i j : Nat} (hi : i < l.length) (hj : j < l.length) : (swp l i j).Perm l := by
  rw [swp_of (List.getElem?_eq_getElem hi) (List.getElem?_eq_getElem hj)]
  by_cases h : i = j
  · subst h; simp
  · classical
    exact (List.perm_iff_count).2 (fun a => by
      rw [List.count_set (by simpa using hj), List.count_set hi]
      simp only [List.getElem_set, h, if_false]
      have c1 := List.count_pos_iff (a := l[i]) (l := l) |>.2 (List.getElem_mem hi)
      have c2 := List.count_pos_iff (a := l[j]) (l := l) |>.2 (List.getElem_mem hj)
      by_cases e1 : l[i] = a <;> by_cases e2 : l[j] = a <;> simp_all <;> omega)
/-- all orders behind some -/
def ords (n : Nat) : Nat → List α → List (List α)
  | 0, l => [l]
  | d + 1, l => (List.range' (n - (d + 1)) (d + 1)).flatMap fun i => ords n d (swp l (n - (d + 1)) i)
theorem ords_mem (n : Nat) : ∀ (d : Nat) (l : List α), d ≤ n → l.length = n → ∀ x, x ∈ ords n d l ↔ x.Perm l ∧ x.take (n - d) = l.take (n - d) := by
  intro d
  induction d with
  | zero =>
    intro l _ hl x
    simp only [ords, List.mem_singleton, Nat.sub_zero]
    constructor
    · rintro rfl; exact ⟨.refl _, rfl⟩
    · rintro ⟨h1, h2⟩
      rw [List.take_of_length_le (by rw [h1.length_eq]; omega), List.take_of_length_le (by omega)] at h2
      exact h2
  | succ d ih =>
    intro l hd hl x
    simp only [ords, List.mem_flatMap, List.mem_range'_1]
    generalize hm : n - (d + 1) = m
    have hm1 : n - d = m + 1 := by omega
    have hml : m < l.length := by omega
    constructor
    · rintro ⟨i, ⟨hi1, hi2⟩, hx⟩
      have hil : i < l.length := by omega
      obtain ⟨h1, h2⟩ := (ih (swp l m i) (by omega) (by rw [swp_len]; exact hl) x).1 hx
      refine ⟨h1.trans (swp_perm hml hil), ?_⟩
      have h3 := congrArg (List.take m) h2
      rw [hm1, List.take_take, List.take_take, Nat.min_eq_left (by omega)] at h3
      rw [h3]
      apply List.ext_getElem?
      intro k
      rw [List.getElem?_take, List.getElem?_take]
      split
      · rw [swp_get hml hil, if_neg (by omega), if_neg (by omega)]
      · rfl
    · rintro ⟨h1, h2⟩
      have hxl : x.length = n := by rw [h1.length_eq]; exact hl
      -- where x's thing at m stands in l
      have hp : (x.drop m).Perm (l.drop m) := by
        have h3 : (x.take m ++ x.drop m).Perm (l.take m ++ l.drop m) := by rw [List.take_append_drop, List.take_append_drop]; exact h1
        rw [h2] at h3
        exact (List.perm_append_left_iff _).1 h3
      have hxm : m < x.length := by omega
      have hmem : x[m] ∈ l.drop m := by
        refine hp.subset ?_
        rw [List.mem_iff_getElem]
        exact ⟨0, by rw [List.length_drop]; omega, by simp⟩
      obtain ⟨k, hk, hke⟩ := List.getElem_of_mem hmem
      rw [List.length_drop] at hk
      rw [List.getElem_drop] at hke
      have hil : m + k < l.length := by omega
      refine ⟨m + k, ⟨by omega, by omega⟩, (ih _ (by omega) (by rw [swp_len]; exact hl) x).2 ⟨h1.trans (swp_perm hml hil).symm, ?_⟩⟩
      rw [hm1]
      apply List.ext_getElem?
      intro j
      rw [List.getElem?_take, List.getElem?_take]
      split
      · rename_i hj
        rw [swp_get hml hil]
        by_cases hj' : j = m
        · subst hj'
          rw [List.getElem?_eq_getElem hxm, ← hke]
          split
          · rename_i he
            rw [List.getElem?_eq_getElem hml]
            congr 1
            simp only [← he]
          · rw [if_pos rfl, List.getElem?_eq_getElem hil]
        · have h4 := congrArg (fun z => z[j]?) h2
          simp only [List.getElem?_take, if_pos (show j < m by omega)] at h4
          rw [h4, if_neg (by omega), if_neg hj']
      · rfl
end Go.G
