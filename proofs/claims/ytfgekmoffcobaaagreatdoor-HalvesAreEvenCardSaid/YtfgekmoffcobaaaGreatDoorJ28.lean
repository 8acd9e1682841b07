/- J28: strings in order: comparing, sorting, compacting; all keys of a map. No program in sight. -/
import Derived.Test.YtfgekmoffcobaaaGreatDoorJ27
import Derived.Lib.Bytealg
import Derived.Lib.SlicesCompact
namespace Go.G
open Go Go.J
set_option linter.unusedSimpArgs false
abbrev Bs := List UInt8
theorem u8_tri (a b : UInt8) : a < b ∨ a = b ∨ b < a := by
  rcases Nat.lt_trichotomy a.toNat b.toNat with h | h | h
  · exact .inl (UInt8.lt_iff_toNat_lt.2 h)
  · exact .inr (.inl (UInt8.toNat_inj.1 h))
  · exact .inr (.inr (UInt8.lt_iff_toNat_lt.2 h))
theorem u8_irr (a : UInt8) : ¬ a < a := fun h => by have := UInt8.lt_iff_toNat_lt.1 h; omega
theorem u8_asym {a b : UInt8} (h : a < b) : ¬ b < a := fun h2 => by have := UInt8.lt_iff_toNat_lt.1 h; have := UInt8.lt_iff_toNat_lt.1 h2; omega
theorem cb_spec : ∀ (a b : Bs), (Lib.compareBytes a b = -1 ∧ a < b) ∨ (Lib.compareBytes a b = 0 ∧ a = b) ∨ (Lib.compareBytes a b = 1 ∧ b < a) := by
  intro a
  induction a with
  | nil =>
    intro b
    cases b with
    | nil => exact .inr (.inl ⟨rfl, rfl⟩)
    | cons y t => exact .inl ⟨rfl, List.nil_lt_cons _ _⟩
  | cons x s ih =>
    intro b
    cases b with
    | nil => exact .inr (.inr ⟨rfl, List.nil_lt_cons _ _⟩)
    | cons y t =>
      unfold Lib.compareBytes
      rcases u8_tri x y with h | rfl | h
      · rw [if_pos h]; exact .inl ⟨rfl, List.cons_lt_cons_iff.2 (.inl h)⟩
      · rw [if_neg (u8_irr x), if_neg (u8_irr x)]
        rcases ih t with ⟨h1, h2⟩ | ⟨h1, h2⟩ | ⟨h1, h2⟩
        · exact .inl ⟨h1, List.cons_lt_cons_iff.2 (.inr ⟨rfl, h2⟩)⟩
        · exact .inr (.inl ⟨h1, by rw [h2]⟩)
        · exact .inr (.inr ⟨h1, List.cons_lt_cons_iff.2 (.inr ⟨rfl, h2⟩)⟩)
      · rw [if_neg (u8_asym h), if_pos h]; exact .inr (.inr ⟨rfl, List.cons_lt_cons_iff.2 (.inl h)⟩)
theorem bs_irr (a : Bs) : ¬ a < a := by
  intro h
  induction a with
  | nil => cases h
  | cons x s ih =>
    rcases List.cons_lt_cons_iff.1 h with h | ⟨-, h⟩
    · exact u8_irr x h
    · exact ih h
theorem bs_trans {a b c : Bs} (h1 : a < b) (h2 : b < c) : a < c := by
  induction a generalizing b c with
  | nil =>
    cases c with
    | nil => cases b <;> cases h2
    | cons z t => exact List.nil_lt_cons _ _
  | cons x s ih =>
    cases b with
    | nil => cases h1
    | cons y t =>
      cases c with
      | nil => cases h2
      | cons z u =>
        rcases List.cons_lt_cons_iff.1 h1 with h3 | ⟨rfl, h3⟩
        · rcases List.cons_lt_cons_iff.1 h2 with h4 | ⟨rfl, -⟩
          · exact List.cons_lt_cons_iff.2 (.inl (UInt8.lt_trans h3 h4))
          · exact List.cons_lt_cons_iff.2 (.inl h3)
        · rcases List.cons_lt_cons_iff.1 h2 with h4 | ⟨rfl, h4⟩
          · exact List.cons_lt_cons_iff.2 (.inl h4)
          · exact List.cons_lt_cons_iff.2 (.inr ⟨rfl, ih h3 h4⟩)
theorem bs_asym {a b : Bs} (h : a < b) : ¬ b < a := fun h2 => bs_irr a (bs_trans h h2)
theorem bs_tri (a b : Bs) : a < b ∨ a = b ∨ b < a := by
  rcases cb_spec a b with h | h | h
  · exact .inl h.2
  · exact .inr (.inl h.2)
  · exact .inr (.inr h.2)
theorem bs_le {a b : Bs} : a ≤ b ↔ ¬ b < a := Iff.rfl
theorem bs_le_trans {a b c : Bs} (h1 : a ≤ b) (h2 : b ≤ c) : a ≤ c := by
  rw [bs_le] at *
  intro h
  rcases bs_tri b a with h3 | rfl | h3
  · exact h1 h3
  · exact h2 h
  · exact h2 (bs_trans h h3)
theorem bs_lt_of {a b : Bs} (h : a ≤ b) (hne : a ≠ b) : a < b := by
  rcases bs_tri a b with h1 | h1 | h1
  · exact h1
  · exact (hne h1).elim
  · exact (h h1).elim
theorem sortS_le (l : List Bs) : (l.mergeSort fun x y => decide (x ≤ y)).Pairwise fun x y => x ≤ y := by
  have tr : ∀ a b c : Bs, decide (a ≤ b) = true → decide (b ≤ c) = true → decide (a ≤ c) = true := fun a b c h1 h2 => by
    rw [decide_eq_true_eq] at *; exact bs_le_trans h1 h2
  have to : ∀ a b : Bs, (decide (a ≤ b) || decide (b ≤ a)) = true := fun a b => by
    rw [Bool.or_eq_true, decide_eq_true_eq, decide_eq_true_eq]
    by_cases h : b < a
    · exact .inr (fun h2 => bs_asym h h2)
    · exact .inl h
  exact (List.pairwise_mergeSort tr to l).imp fun h => by simpa using h
theorem compact_lt {l : List Bs} (h : l.Pairwise fun x y => x ≤ y) : (Lib.compact l).Pairwise fun x y => x < y := by
  unfold Lib.compact Lib.compactUpTo
  rw [List.pairwise_map]
  have hr : ((List.range l.length).filter (Lib.keeps l.toArray)).Pairwise fun i j => i < j ∧ j < l.length ∧ Lib.keeps l.toArray j = true := by
    have h1 : (List.range l.length).Pairwise fun i j => i < j ∧ j < l.length := by
      rw [List.pairwise_iff_getElem]
      intro i j hi hj hij
      simp at hi hj
      simp [hij, hj]
    rw [List.pairwise_filter]
    exact h1.imp fun hij _ hk => ⟨hij.1, hij.2, hk⟩
  refine hr.imp ?_
  rintro i j ⟨hij, hj, hk⟩
  have hi : i < l.length := by omega
  have hle : ∀ a b (ha : a < l.length) (hb : b < l.length), a ≤ b → l[a] ≤ l[b] := fun a b ha hb hab => by
    rcases Nat.lt_or_eq_of_le hab with h1 | rfl
    · exact List.pairwise_iff_getElem.1 h a b ha hb h1
    · exact bs_irr _
  have hne : l[j] ≠ l[j - 1] := by
    unfold Lib.keeps at hk
    rw [decide_eq_true_eq] at hk
    rcases hk with h1 | h1
    · omega
    · simpa [hj, show j - 1 < l.length by omega] using h1
  have e1 : l.toArray[i]! = l[i] := by simp [hi]
  have e2 : l.toArray[j]! = l[j] := by simp [hj]
  rw [e1, e2]
  have h1 : l[j - 1] < l[j] := bs_lt_of (hle (j - 1) j (by omega) hj (by omega)) fun e => hne e.symm
  have h2 : l[i] ≤ l[j - 1] := hle i (j - 1) hi (by omega) (by omega)
  rcases bs_tri l[i] l[j] with h3 | h3 | h3
  · exact h3
  · rw [h3] at h2; exact (h2 h1).elim
  · exact (h2 (bs_trans h1 h3)).elim
/-- lists that rise and have the same members are the same -/
theorem rise_eq {a b : List Bs} (ha : a.Pairwise fun x y => x < y) (hb : b.Pairwise fun x y => x < y) (h : ∀ x, x ∈ a ↔ x ∈ b) : a = b := by
  have na : a.Nodup := List.Pairwise.imp (R := fun x y : Bs => x < y) (fun {x y} h (e : x = y) => bs_irr y (by rw [e] at h; exact h)) ha
  have nb : b.Nodup := List.Pairwise.imp (R := fun x y : Bs => x < y) (fun {x y} h (e : x = y) => bs_irr y (by rw [e] at h; exact h)) hb
  exact List.Perm.eq_of_pairwise (fun x y _ _ h1 h2 => (bs_asym h1 h2).elim) ha hb ((List.perm_ext_iff_of_nodup na nb).2 fun x => h x)
theorem sort_lt {l : List Bs} (hn : l.Nodup) : (l.mergeSort fun x y => decide (x ≤ y)).Pairwise fun x y => x < y := by
  have h1 := sortS_le l
  have h2 : (l.mergeSort fun x y => decide (x ≤ y)).Nodup := (List.mergeSort_perm l _).nodup_iff.2 hn
  have h3 := h1.and h2
  exact h3.imp fun h => bs_lt_of h.1 h.2
theorem sortS_perm {a b : List Bs} (h : a.Perm b) : (a.mergeSort fun x y => decide (x ≤ y)) = b.mergeSort fun x y => decide (x ≤ y) :=
  List.Perm.eq_of_pairwise (fun x y _ _ h1 h2 => by
    rcases bs_tri x y with h3 | h3 | h3
    · exact (h2 h3).elim
    · exact h3
    · exact (h1 h3).elim) (sortS_le a) (sortS_le b) ((List.mergeSort_perm _ _).trans (h.trans (List.mergeSort_perm _ _).symm))
/-- what ends with a permutation -/
noncomputable def KfP {α ρ : Type} (L : List α) (f : Flow (List α) ρ) : Option Unit := by
  classical exact if ∃ L', L'.Perm L ∧ f = .brk L' then some () else none
theorem KfP_brk {α ρ : Type} {L s : List α} (h : KfP (ρ := ρ) L (.brk s) = some ()) : s.Perm L := by
  unfold KfP at h
  split at h
  · rename_i hx
    obtain ⟨L', h1, h2⟩ := hx
    cases h2
    exact h1
  · cases h
def appStep {α ρ : Type} (by_ : Nat) (_ : Nat) (x : α) (u : List α) : Option (Flow (List α) ρ) := (appM by_ u [x]).bind fun q => some (.nxt q)
theorem appStep_all {α ρ : Type} {by_ : Nat} (hb : 0 < by_) {L : List α} (hl : L.length * by_ ≤ 140737488355328) : ∀ L', L'.Perm L → (rangeM (appStep (ρ := ρ) by_) 0 L' []).bind (KfP L) = some () := by
  intro L' hL
  have key : ∀ (q p : List α) (i : Nat), (p.length + q.length) * by_ ≤ 140737488355328 → rangeM (appStep (ρ := ρ) by_) i q p = some (.brk (p ++ q)) := by
    intro q
    induction q with
    | nil => intro p i _; simp [rangeM]
    | cons x q ih =>
      intro p i hp
      have h1 : appStep (ρ := ρ) by_ i x p = some (.nxt (p ++ [x])) := by
        unfold appStep appM
        have : (p.length + [x].length) * by_ ≤ 140737488355328 := Nat.le_trans (Nat.mul_le_mul_right _ (by simp)) hp
        have h2 : (p.length + [x].length) * 1 ≤ (p.length + [x].length) * by_ := Nat.mul_le_mul_left _ hb
        rw [if_pos ⟨this, by unfold maxLen; omega⟩]; rfl
      show ((appStep (ρ := ρ) by_ i x p).bind _) = _
      rw [h1]
      show rangeM (appStep (ρ := ρ) by_) (i + 1) q (p ++ [x]) = _
      rw [ih (p ++ [x]) (i + 1) (by simpa [Nat.add_assoc, Nat.add_comm 1] using hp)]
      simp
  rw [key L' [] 0 (by rw [hL.length_eq]; simpa using hl)]
  show KfP L (.brk ([] ++ L')) = _
  unfold KfP
  rw [if_pos ⟨L', hL, by simp⟩]
end Go.G
