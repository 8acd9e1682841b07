/- LY1: what the reference finds wrong with an act by itself: the same. In plain Lean, no program in sight. -/
import Derived.Test.YtdmejijkjgdfaadGreatDoorLY0
import Derived.Test.YtdmejijkjgdfaadGreatDoorLM
namespace Go.G
open Go Go.J
set_option linter.unusedSimpArgs false
theorem ContainsI_spec (a : List Int) (k : Int) : m_slices_Contains_int_int a k = some (a.any fun x => k == x) := by
  unfold m_slices_Contains_int_int
  rw [show m_slices_Index_int_int a k = ixM (fun x => some (k == x)) a from rfl]
  exact ixAny _ _ _ fun x _ => rfl
theorem is1 (x : TAct) (l : List Int) : m_gleeref2_ActFault_1 l x.Site x.No x.At x.Kind x.Who x.Motion x.Cents x.Yes x.Of x.Other = some (l.any fun y => x.Kind == y) := by
  unfold m_gleeref2_ActFault_1
  rw [ContainsI_spec]; rfl
theorem any_who (k : Int) : ([1, 2, 3, 5] : List Int).any (fun y => k == y) = useWho k := by
  simp only [List.any_cons, List.any_nil, Bool.or_false, useWho, ← Bool.or_assoc]
theorem any_mot (k : Int) : ([4, 5, 6] : List Int).any (fun y => k == y) = useMot k := by
  simp only [List.any_cons, List.any_nil, Bool.or_false, useMot, ← Bool.or_assoc]
theorem any_cts (k : Int) : ([1, 3] : List Int).any (fun y => k == y) = useCts k := by
  simp only [List.any_cons, List.any_nil, Bool.or_false, useCts]
theorem any_one (k n : Int) : ([n] : List Int).any (fun y => k == y) = (k == n) := by
  simp only [List.any_cons, List.any_nil, Bool.or_false]
theorem eq_parts (x : TAct) (w m o : ByteArray) (c z : Int) (y : Bool) :
    decide (x = ⟨x.Site, x.No, x.At, x.Kind, w, m, c, y, o, z⟩) = (decide (x.Who = w) && decide (x.Motion = m) && decide (x.Cents = c) && decide (x.Yes = y) && decide (x.Of = o) && decide (x.Other = z)) := by
  obtain ⟨a1, a2, a3, a4, a5, a6, a7, a8, a9, a10⟩ := x
  simp only [TAct.mk.injEq, true_and]
  rw [← Bool.decide_and, ← Bool.decide_and, ← Bool.decide_and, ← Bool.decide_and, ← Bool.decide_and]
  simp only [and_assoc]
theorem cts_k3 {k : Int} (h : useCts k = false) : (k == 3) = false := by
  unfold useCts at h
  cases h1 : (k == 3)
  · rfl
  · rw [h1] at h; simp at h
theorem in_cents (n : Int) : inR n 1 1000000000 = (inR n 0 1000000000 && !(n == 0)) := by
  unfold inR
  rw [Bool.eq_iff_iff]; simp; omega
set_option maxHeartbeats 4000000 in
theorem ActFault_spec (x : TAct) : m_gleeref2_ActFault x = some (actF x) := by
  unfold m_gleeref2_ActFault actF
  simp only [isKey_ref, in_R, Moment_R, is1, any_who, any_mot, any_cts, any_one, Option.bind_some, eq_parts]
  have hE : ∀ s : ByteArray, decide (s = ByteArray.empty) = isE s := fun s => by rw [Bool.eq_iff_iff, isE_iff]; simp
  have h3 : useCts x.Kind = false → (x.Kind == 3) = false := cts_k3
  generalize isKey x.Site = b1, inR x.No 1 1000000 = b2, isAt x.At = b3, inR x.Kind 1 7 = b4
  cases b1
  · rfl
  cases b2
  · rfl
  cases b3
  · rfl
  cases b4
  · rfl
  simp only [Bool.not_true, ifB_false, Option.bind_some, fin_inl, cond_false, Bool.or_false]
  have hc : (bif x.Kind == 3 then (1 : Int) else 0) = 1 → inR x.Cents (bif x.Kind == 3 then 1 else 0) 1000000000 = (inR x.Cents 0 1000000000 && !(x.Cents == 0)) := fun e => by rw [e]; exact in_cents _
  have h3' : (useCts x.Kind && !inR x.Cents (bif x.Kind == 3 then 1 else 0) 1000000000) = (useCts x.Kind && (!inR x.Cents 0 1000000000 || ((x.Kind == 3) && (x.Cents == 0)))) := by
    cases h : (x.Kind == 3)
    · simp
    · simp only [cond_true, in_cents]
      cases inR x.Cents 0 1000000000 <;> cases (x.Cents == 0) <;> simp
  rw [h3']
  cases hw : useWho x.Kind <;> cases hm : useMot x.Kind <;> cases hu : (x.Kind == 7) <;>
    simp only [ifB_true, ifB_false, Option.bind_some, fin_inl, Bool.true_and, Bool.false_and, Bool.false_or, Bool.or_false, Bool.not_true, Bool.not_false]
  all_goals (
    have hz : ∀ n : Int, decide (n = 0) = !(n != 0) := fun n => by cases h : (n != 0) <;> simp_all
    have hy : ∀ b : Bool, decide (b = false) = !b := fun b => by cases b <;> rfl
    have hz2 : (x.Cents == 0) = !(x.Cents != 0) := by simp [bne]
    cases hcc : useCts x.Kind <;> cases h5 : (x.Kind == 5) <;> cases hk3 : (x.Kind == 3) <;>
    simp only [ifB_true, ifB_false, Option.bind_some, fin_inl, hE, hz, hy, hz2, decide_true, Bool.true_and, Bool.false_and, Bool.and_true, Bool.not_true, Bool.not_false, Bool.false_or, Bool.or_false])
  all_goals (
    have hz : ∀ n : Int, decide (n = 0) = !(n != 0) := fun n => by cases h : (n != 0) <;> simp_all
    cases isKey x.Who <;> cases isKey x.Motion <;> cases isKey x.Of <;> cases inR x.Cents 0 1000000000 <;> cases hz1 : (x.Cents != 0) <;> simp only [ifB_true, ifB_false, Option.bind_some, fin_inl, fin_inr, hE, hz, hz1, decide_true, Bool.true_and, Bool.false_and, Bool.and_true, Bool.not_true, Bool.not_false, Bool.false_or, Bool.or_false])
  all_goals (
    generalize isE x.Who = e1, isE x.Motion = e2, isE x.Of = e3, (x.Other != 0) = z2, x.Yes = y, inR x.Other 1 1000000 = c2
    (try rfl) <;> cases c2 <;> (try rfl) <;> cases e1 <;> cases e2 <;> cases e3 <;> cases z2 <;> cases y <;> rfl)
end Go.G
