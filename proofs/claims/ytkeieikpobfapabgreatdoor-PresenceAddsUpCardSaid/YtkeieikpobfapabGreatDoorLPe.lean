/- LPe: when a singer was there within a window, by the moments at which something happens: the same. In plain Lean, no program in sight. -/
import Derived.Test.YtkeieikpobfapabGreatDoorLRk
namespace Go.G
open Go Go.J
set_option linter.unusedSimpArgs false
set_option linter.unusedVariables false
def leI (x y : Int) : Bool := decide (x ≤ y)
structure SepX (l : List TWindow) : Prop where
 pw : l.Pairwise fun a b => a.To < b.From
 ok : ∀ w ∈ l, w.From < w.To
theorem SepX.tail {w : TWindow} {l : List TWindow} (h : SepX (w :: l)) : SepX l := ⟨(List.pairwise_cons.1 h.pw).2, fun x hx => h.ok x (List.mem_cons_of_mem _ hx)⟩
theorem clip_sep {l : List TWindow} (h : SepW l) (w : TWindow) : SepX (l.filterMap (clipW w)) ∧ ∀ t, covW (l.filterMap (clipW w)) t = (hasW w t && covW l t) := by
 refine ⟨⟨?_, ?_⟩, fun t => ?_⟩
 ·rw [List.pairwise_filterMap]
  refine h.pw.imp fun {a b} hab x hx y hy => ?_
  unfold clipW at hx hy
  split at hx <;> split at hy
  ·cases hx; cases hy; simp only; omega
  ·cases hy
  ·cases hx
  ·cases hx
 ·intro x hx
  obtain ⟨y, _, hy⟩ := List.mem_filterMap.1 hx
  unfold clipW at hy
  split at hy
  ·cases hy; assumption
  ·cases hy
 ·unfold covW
  rw [List.any_filterMap, Bool.eq_iff_iff, List.any_eq_true, Bool.and_eq_true, List.any_eq_true]
  constructor
  ·rintro ⟨s, hs, hp⟩
   unfold clipW at hp
   by_cases g : max s.From w.From < min s.To w.To
   ·rw [if_pos g] at hp
    have := hasW_iff.1 hp
    simp only at this
    exact ⟨hasW_iff.2 (by omega), s, hs, hasW_iff.2 (by omega)⟩
   ·rw [if_neg g] at hp; cases hp
  ·rintro ⟨hw, s, hs, hp⟩
   have h1 := hasW_iff.1 hw
   have h2 := hasW_iff.1 hp
   refine ⟨s, hs, ?_⟩
   unfold clipW
   rw [if_pos (by omega)]
   exact hasW_iff.2 (by simp only; omega)
theorem thereAt_s (c : List TCame) (s : ByteArray) (t : Int) : m_gleeref2_thereAt c s t = some (thB c s t) := by
 unfold m_gleeref2_thereAt thB
 have key : ∀ (l : List TCame) (i : Nat) (b : Bool), rangeM (m_gleeref2_thereAt_l1 s t) i l b = some (.brk (l.foldl (fun b x => if x.Singer = s ∧ x.At ≤ t then !x.Left else b) b)) := by
  intro l
  induction l with
  | nil => intro i b; rfl
  | cons x l ih =>
   intro i b
   have hst : m_gleeref2_thereAt_l1 s t i x b = some (.nxt (if x.Singer = s ∧ x.At ≤ t then !x.Left else b)) := by
    unfold m_gleeref2_thereAt_l1
    change ((ifB (sameB x.Singer s) _ _ : Option _).bind _) = _
    cases hs : sameB x.Singer s with
    | false => rw [if_neg (fun g => by rw [sameB_iff.2 g.1] at hs; cases hs)]; rfl
    | true =>
     have e := sameB_iff.1 hs
     rw [ifB_true, Option.bind_some, fin_inl]
     by_cases h : x.At ≤ t
     ·rw [decide_eq_true h, if_pos ⟨e, h⟩]; rfl
     ·rw [decide_eq_false h, if_neg (fun g => h g.2)]; rfl
   rw [rangeM_cons, hst, Option.bind_some, run_nxt, ih]
   rfl
 rw [key]; rfl
def evB (w : TWindow) (s : ByteArray) (x : TCame) : Bool := sameB x.Singer s && (decide (w.From < x.At) && decide (x.At < w.To))
end Go.G
