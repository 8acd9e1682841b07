/- LB5: the law of the shifts there and back. In plain Lean, no program in sight. -/
import Derived.Test.YtdeoejkgmeemaaeGreatDoorLB4
import Derived.Test.YtdeoejkgmeemaaeGreatDoorLR1
namespace Go.G
open Go Go.J
theorem can_back {a : Int} {t : List TTone} (h : Can a t) : Can (-a) (t.map (sh a)) := fun x hx => by
  obtain ⟨y, hy, rfl⟩ := List.mem_map.1 hx
  rw [sh_note]
  rcases h y hy with h1 | h1
  · left; rw [if_pos h1]
  · right; rw [if_neg (by omega)]; omega
/-- THE LAW: at every seed the answer is true. -/
theorem ShiftsComeBack_true (L : List Int) : m_gleekeep2_ShiftsComeBack L = some true := by
  unfold m_gleekeep2_ShiftsComeBack
  obtain ⟨bs, q, b1, b2, b3, b4, b5, hc⟩ := RightBars_right L
  obtain ⟨t, q2, t1, t2, t3, t4, hf, hm⟩ := TonesFor_right L (bs := bs) (p := q) b3 hc b4 (by omega)
  obtain ⟨a, r1, r2, r3⟩ := Range_spec L (p := q2) (a := -40) (b := 40) (by omega) (by omega) (by omega) (by omega) (by omega)
  have hcan := Mid.can hm r2 r3
  have hcan2 := can_back hcan
  have hw : w64 (0 - a) = -a := by rw [w64_id (by omega)]; omega
  obtain ⟨b, lo, hi, g1, g2, g3⟩ := RangeOf_sh hc hf hm r2 r3
  rw [b1, Option.bind_some]
  simp only
  rw [t1, Option.bind_some]
  simp only
  rw [r1, Option.bind_some]
  simp only
  rw [Shift_good hc hf hcan (by omega) (by omega), Option.bind_some, hw]
  simp only
  rw [Shift_good hc (hf.shift hcan) hcan2 (by omega) (by omega), Option.bind_some, sh_back hcan, g1, Option.bind_some, g2, Option.bind_some]
  simp only
  cases b with
  | false =>
    simp only [Bool.false_eq_true, if_false]
    rw [show m_gleekeep2_errs [0, 0, 0, 0] = some 0 by kernel_rfl, Option.bind_some, show ((0 : Int) == 0) = true from rfl, ifB_true, EqualT_refl, Option.bind_some, ifB_true, show ((false : Bool) == false) = true from rfl, ifB_true, Bool.not_false, ifB_true, ready_true]
    rfl
  | true =>
    have := g3 rfl
    simp only [if_true]
    rw [show m_gleekeep2_errs [0, 0, 0, 0] = some 0 by kernel_rfl, Option.bind_some, show ((0 : Int) == 0) = true from rfl, ifB_true, EqualT_refl, Option.bind_some, ifB_true, show ((true : Bool) == true) = true from rfl, ifB_true, Bool.not_true, ifB_false,
      w64_id (n := lo + a) (by omega), w64_id (n := hi + a) (by omega), decide_eq_true rfl, ifB_true, ready_true]
    rfl
end Go.G
