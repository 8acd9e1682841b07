/- LQ8: the law of the shortest orders. In plain Lean, no program in sight. -/
import Derived.Test.YtdeoejkgmeemaabGreatDoorLQ6
import Derived.Test.YtdeoejkgmeemaabGreatDoorLR1
namespace Go.G
open Go Go.J
/-- THE LAW: at every seed the answer is true. -/
theorem OrdersAreShortest_true (L : List Int) : m_gleekeep2_OrdersAreShortest L = some true := by
  unfold m_gleekeep2_OrdersAreShortest
  obtain ⟨p, q, h1, h2, h3, h4, hr⟩ := RightProgram_right L (q := 0) (most := 5) (by omega) (by omega) (by omega) (by omega)
  have h := hr.good
  have hl := hr.len
  rw [h1, Option.bind_some]
  simp only
  obtain ⟨y, hy, ho, hmin⟩ := Order_good h (by omega)
  rw [ho, Option.bind_some]
  simp only
  rw [Moved_good h hy, Option.bind_some]
  simp only
  rw [Long_zero (h.perm hy), Option.bind_some]
  obtain ⟨o, q', g1, g2, g3, g4⟩ := Order_perm L (q := q) (n := p.Items.length) (by omega) (by omega) (by omega)
  rw [g1, Option.bind_some]
  obtain ⟨x, hx, hxl, hxg⟩ := perm_items g4
  have hxn := hx.length_eq
  have hloop : rangeM (m_gleekeep2_OrdersAreShortest_l1 (p, q)) 0 o [] = some (.brk (x.map (·.Key))) := by
    obtain ⟨u, k1, k2⟩ := rangeM_invx (m_gleekeep2_OrdersAreShortest_l1 (p, q)) o (fun i u => u = (x.take i).map (·.Key)) (by
      rintro i z u hz rfl
      have hi := (List.getElem?_eq_some_iff.1 hz).1
      have hxi : x[i]? = some (x[i]'(by omega)) := List.getElem?_eq_getElem _
      have hg := hxg i z hz
      rw [hxi] at hg
      unfold m_gleekeep2_OrdersAreShortest_l1
      simp only
      rw [hg, Option.bind_some, appM_of (by simp; omega) (by omega), Option.bind_some]
      exact ⟨_, rfl, by rw [List.take_add_one, hxi, List.map_append]; rfl⟩) [] (by simp)
    rw [k1, k2, ← hxl, List.take_length]
  simp only
  rw [hloop, Option.bind_some, fin_brk, Moved_good h hx, Option.bind_some]
  simp only
  rw [Long_zero (h.perm hx), Option.bind_some]
  simp only
  rw [show m_gleekeep2_errs [0, 0, 0, 0, 0] = some 0 by kernel_rfl, Option.bind_some, show ((0 : Int) == 0) = true from rfl, ifB_true]
  have e1 : (((setI p y).Items.length : Int) == (p.Items.length : Int)) = true := by
    show ((y.length : Int) == (p.Items.length : Int)) = true
    rw [hy.length_eq]; simp
  have e2 : (bg (setI p y) (setI p y).Items.length == bg (setI p y) y.length) = true := by
    show (bg (setI p y) y.length == bg (setI p y) y.length) = true
    simp
  rw [e1, ifB_true, e2, ifB_true, decide_eq_true (show bg (setI p y) y.length ≤ bg (setI p x) (setI p x).Items.length from hmin x hx), ifB_true, ready_true]
  rfl
end Go.G
