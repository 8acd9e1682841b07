/- LYu: a payment that is undone at once: the books are as they were; what is refused counts, and undoes nothing. In plain Lean, no program in sight. -/
import Derived.Test.YtgfbgcdnnkehbaaGreatDoorLY6
namespace Go.G
open Go Go.J
set_option linter.unusedSimpArgs false
def zzS : ByteArray := ByteArray.mk [122, 122].toArray
def payA (a : Int) : TAct := ⟨zzS, 1, a, 3, annA, ByteArray.empty, 5, false, ByteArray.empty, 0⟩
def undoA (a : Int) : TAct := ⟨zzS, 2, a, 7, ByteArray.empty, ByteArray.empty, 0, false, zzS, 1⟩
theorem und_two (a : Int) : ∀ (t : List TAct), (∀ x ∈ t, x.Site ≠ zzS) → ∀ k : Tclub_own, k ≠ ⟨zzS, 1⟩ → und a (t ++ [payA a, undoA a]) k = und a t k := by
  intro t
  induction t with
  | nil =>
    intro _ k hk
    rw [List.nil_append, und_cons, und_cons]
    have h1 : ((payA a).Kind == 7) = false := rfl
    have h2 : decide (k = ⟨(undoA a).Of, (undoA a).Other⟩) = false := decide_eq_false hk
    rw [h1, h2]; simp [und]
  | cons x t ih =>
    intro h k hk
    have hx : own x ≠ ⟨zzS, 1⟩ := fun e => h x (List.mem_cons_self ..) (congrArg Tclub_own.site e)
    have ih' := ih fun y hy => h y (List.mem_cons_of_mem _ hy)
    rw [List.cons_append, und_cons, und_cons, ih' k hk]
    unfold cnt
    rw [ih' _ hx]
theorem cntIx_two (a : Int) : ∀ (t : List TAct) (i : Nat), (∀ x ∈ t, x.Site ≠ zzS) → cntIx a i (t ++ [payA a, undoA a]) = cntIx a i t ++ [((i + t.length + 1 : Nat) : Int)] := by
  intro t
  induction t with
  | nil =>
    intro i _
    have h1 : cnt a (undoA a) [] = true := by unfold cnt und; rw [decide_eq_true (show (undoA a).At ≤ a from Int.le_refl _)]; rfl
    have h2 : cnt a (payA a) [undoA a] = false := by
      unfold cnt
      rw [und_cons, h1, show decide (own (payA a) = ⟨(undoA a).Of, (undoA a).Other⟩) = true from decide_eq_true rfl, show ((undoA a).Kind == 7) = true from rfl]
      simp
    simp only [List.nil_append, cntIx, h1, h2, cond_true, cond_false, List.length_nil, List.append_nil]
  | cons x t ih =>
    intro i h
    have hx : own x ≠ ⟨zzS, 1⟩ := fun e => h x (List.mem_cons_self ..) (congrArg Tclub_own.site e)
    have h' : ∀ y ∈ t, y.Site ≠ zzS := fun y hy => h y (List.mem_cons_of_mem _ hy)
    rw [List.cons_append]
    unfold cntIx
    rw [ih (i + 1) h', show cnt a x (t ++ [payA a, undoA a]) = cnt a x t by unfold cnt; rw [und_two a t h' _ hx], List.append_assoc, List.length_cons, show i + 1 + t.length + 1 = i + (t.length + 1) + 1 by omega]
theorem stepX_undo (s : Bk) (z : Int) (x : TAct) (h : x.Kind = 7) : stepX s z x = s := by
  unfold stepX perm actB
  rw [h]
  cases lkM s.mo x.Motion <;> simp
theorem fold_same (l l' : List TAct) : ∀ (t : List Int) (s : Bk), (∀ z ∈ t, l[z.toNat]? = l'[z.toNat]?) → t.foldl (stepB l) s = t.foldl (stepB l') s := by
  intro t
  induction t with
  | nil => intro s _; rfl
  | cons z t ih =>
    intro s h
    rw [List.foldl_cons, List.foldl_cons, show stepB l s z = stepB l' s z by unfold stepB; rw [h z (List.mem_cons_self ..)]]
    exact ih _ fun y hy => h y (List.mem_cons_of_mem _ hy)
theorem books_two (a : Int) (l : List TAct) (h : ∀ x ∈ l, x.Site ≠ zzS) : booksOf (l ++ [payA a, undoA a]) a = booksOf l a := by
  unfold booksOf
  rw [cntIx_two a l 0 h, List.foldl_append]
  rw [fold_same (l ++ [payA a, undoA a]) l (cntIx a 0 l) _ (fun z hz => by
    obtain ⟨j, rfl, hj⟩ := cntIx_mem a l 0 z hz
    rw [Int.toNat_natCast, Nat.zero_add, List.getElem?_append_left hj])]
  rw [List.foldl_cons, List.foldl_nil]
  generalize (cntIx a 0 l).foldl (stepB l) ⟨[], [], [], []⟩ = s
  unfold stepB
  rw [Int.toNat_natCast, List.getElem?_append_right (by omega), show 0 + l.length + 1 - l.length = 1 by omega]
  exact stepX_undo s _ _ rfl
theorem actF_pay (a : Int) (h : isAt a = true) : actF (payA a) = 0 := by
  unfold actF payA
  simp only [h]
  kernel_rfl
theorem actF_undo (a : Int) (h : isAt a = true) : actF (undoA a) = 0 := by
  unfold actF undoA
  simp only [h]
  kernel_rfl
theorem cmpA_lt_at {x y : TAct} (h : x.At < y.At) : cmpA x y < 0 := by
  unfold cmpA
  have : cI x.At y.At = -1 := by unfold cI; rw [decide_eq_true h]; rfl
  rw [this, show ((-1 : Int) != 0) = true from rfl, cond_true]; omega
theorem ok_two (a : Int) (l : List TAct) (hl : ActsOK l) (hn : l.length ≤ 1000) (ha : isAt a = true) (h : ∀ x ∈ l, x.Site ≠ zzS) (hat : ∀ x ∈ l, x.At < a) : ActsOK (l ++ [payA a, undoA a]) := by
  refine ⟨by simp; omega, fun x hx => ?_, fun i x y hx hy => ?_, ?_⟩
  · rcases List.mem_append.1 hx with q | q
    · exact hl.ok x q
    · simp only [List.mem_cons, List.not_mem_nil, or_false] at q
      rcases q with rfl | rfl
      · exact actF_pay a ha
      · exact actF_undo a ha
  · by_cases h1 : i + 1 < l.length
    · rw [List.getElem?_append_left h1] at hy
      rw [List.getElem?_append_left (by omega)] at hx
      exact hl.ord i x y hx hy
    · rw [List.getElem?_append_right (by omega)] at hy
      by_cases h2 : i + 1 = l.length
      · rw [h2, Nat.sub_self] at hy
        simp at hy
        subst hy
        rw [List.getElem?_append_left (by omega)] at hx
        exact cmpA_lt_at (hat x (List.mem_of_getElem? hx))
      · have h3 : i = l.length := by
          have := (List.getElem?_eq_some_iff.1 hy).1
          simp at this; omega
        subst h3
        rw [List.getElem?_append_right (by omega), Nat.sub_self] at hx
        rw [show l.length + 1 - l.length = 1 by omega] at hy
        simp at hx hy
        subst hx; subst hy
        unfold cmpA
        have e1 : cI (payA a).At (undoA a).At = 0 := cI_zero.2 rfl
        have e2 : cmpS (payA a).Site (undoA a).Site = 0 := cmpS_zero.2 rfl
        rw [e1, e2, show ((0 : Int) != 0) = false from rfl, cond_false, cond_false]
        exact cI_neg.2 (show (1 : Int) < 2 by omega)
  · rw [List.map_append, List.nodup_append]
    refine ⟨hl.nd, by simp [own, payA, undoA], fun u hu v hv e => ?_⟩
    obtain ⟨x, hx, rfl⟩ := List.mem_map.1 hu
    simp only [List.map_cons, List.map_nil, List.mem_cons, List.not_mem_nil, or_false] at hv
    have : (own x).site = zzS := by rcases hv with rfl | rfl <;> rw [e] <;> rfl
    exact h x hx this
/-- who is refused counts, and undoes nothing -/
theorem refused_in (l : List TAct) : ∀ (t : List Int) (s : Bk) (T : List Int), (∀ z ∈ t, z ∈ T) → (∀ z ∈ s.rf, z ∈ T ∧ ∀ x, l[z.toNat]? = some x → x.Kind ≠ 7) → ∀ z ∈ (t.foldl (stepB l) s).rf, z ∈ T ∧ ∀ x, l[z.toNat]? = some x → x.Kind ≠ 7 := by
  intro t
  induction t with
  | nil => intro s T _ h; exact h
  | cons z t ih =>
    intro s T hT h
    rw [List.foldl_cons]
    refine ih _ T (fun y hy => hT y (List.mem_cons_of_mem _ hy)) ?_
    unfold stepB
    cases hx : l[z.toNat]? with
    | none => exact h
    | some x =>
      simp only
      unfold stepX
      split
      · exact h
      · rename_i hp
        intro y hy
        rcases List.mem_append.1 hy with q | q
        · exact h y q
        · simp only [List.mem_singleton] at q
          subst q
          refine ⟨hT _ (List.mem_cons_self ..), fun x' hx' e => hp ?_⟩
          rw [hx] at hx'; cases hx'
          unfold perm
          rw [e]; rfl
end Go.G
