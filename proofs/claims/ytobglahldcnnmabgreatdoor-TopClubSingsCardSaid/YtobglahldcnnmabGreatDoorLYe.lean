/- LYe: what is due, and what somebody paid less that: as the program reckons it. In plain Lean, no program in sight. -/
import Derived.Test.YtobglahldcnnmabGreatDoorLYd
namespace Go.G
open Go Go.J
set_option linter.unusedSimpArgs false
set_option linter.unusedVariables false
def StayOK (a : Int) (y : Tclub_stay) : Prop := 0 ≤ y.since ∧ y.since ≤ a ∧ (y.till = -1 ∨ y.since ≤ y.till ∧ y.till ≤ a) ∧ 0 ≤ y.cents ∧ y.cents ≤ 1000000000
def monthsS (a : Int) (y : Tclub_stay) : Int := if y.till < 0 then (a - y.since) / 2592000000 + 1 else (y.till - y.since + 2591999999) / 2592000000
def dueS (a : Int) (y : Tclub_stay) : Int := monthsS a y * y.cents
def dueL (a : Int) : List Tclub_stay → Int
  | [] => 0
  | y :: t => dueS a y + dueL a t
theorem months_rng {a : Int} {y : Tclub_stay} (h : StayOK a y) (ha : a ≤ 345686399999) : 0 ≤ monthsS a y ∧ monthsS a y ≤ 134 := by
  unfold StayOK at h
  unfold monthsS
  split <;> omega
theorem dueS_rng {a : Int} {y : Tclub_stay} (h : StayOK a y) (ha : a ≤ 345686399999) : 0 ≤ dueS a y ∧ dueS a y ≤ 134000000000 := by
  obtain ⟨m1, m2⟩ := months_rng h ha
  unfold StayOK at h
  unfold dueS
  refine ⟨Int.mul_nonneg m1 h.2.2.2.1, ?_⟩
  exact Int.le_trans (Int.mul_le_mul m2 h.2.2.2.2 h.2.2.2.1 (by omega)) (by omega)
theorem dueL1 {a : Int} {y : Tclub_stay} (h : StayOK a y) (ha : a ≤ 345686399999) (i : Nat) (u : Int) (hu : 0 ≤ u) (hu' : u ≤ 4000000000000000000) : m_club_books_due_l1 a i y u = some (.nxt (u + dueS a y)) := by
  obtain ⟨m1, m2⟩ := months_rng h ha
  obtain ⟨d1, d2⟩ := dueS_rng h ha
  have h' := h
  unfold StayOK at h'
  unfold m_club_books_due_l1
  by_cases ht : y.till < 0
  · have e : (w64 (w64 ((w64 (a - y.since)).tdiv 2592000000) + 1)) = monthsS a y := by
      rw [w64_id (n := a - y.since) (by omega), Int.tdiv_eq_ediv_of_nonneg (by omega), w64_id (n := (a - y.since) / 2592000000) (by omega), w64_id (by omega)]
      unfold monthsS; rw [if_pos ht]
    rw [decide_eq_true ht, ifB_true, e, show monthsS a y * y.cents = dueS a y from rfl, w64_id (n := dueS a y) (by omega), w64_id (by omega)]
  · have e : (w64 ((w64 ((w64 ((w64 (y.till - y.since)) + 2592000000)) - 1)).tdiv 2592000000)) = monthsS a y := by
      rw [w64_id (n := y.till - y.since) (by omega), w64_id (n := y.till - y.since + 2592000000) (by omega), w64_id (n := y.till - y.since + 2592000000 - 1) (by omega), Int.tdiv_eq_ediv_of_nonneg (by omega), w64_id (by omega)]
      unfold monthsS; rw [if_neg ht]; congr 1; omega
    rw [decide_eq_false ht, ifB_false, e, show monthsS a y * y.cents = dueS a y from rfl, w64_id (n := dueS a y) (by omega), w64_id (by omega)]
theorem due_loop {a : Int} (ha : a ≤ 345686399999) : ∀ (t : List Tclub_stay) (i : Nat) (u : Int), (∀ y ∈ t, StayOK a y) → 0 ≤ u → u + 134000000000 * (t.length : Int) ≤ 4000000000000000000 →
    rangeM (m_club_books_due_l1 a) i t u = some (.brk (u + dueL a t)) ∧ 0 ≤ dueL a t ∧ dueL a t ≤ 134000000000 * (t.length : Int) := by
  intro t
  induction t with
  | nil => intro i u _ _ _; simp [dueL]
  | cons y t ih =>
    intro i u h hu hb
    have hy := h y (List.mem_cons_self ..)
    obtain ⟨d1, d2⟩ := dueS_rng hy ha
    simp only [List.length_cons] at hb
    obtain ⟨g1, g2, g3⟩ := ih (i + 1) (u + dueS a y) (fun z hz => h z (List.mem_cons_of_mem _ hz)) (by omega) (by omega)
    rw [rangeM_cons, dueL1 hy ha i u hu (by omega), Option.bind_some, run_nxt, g1]
    simp only [dueL, List.length_cons]
    exact ⟨by rw [Int.add_assoc], by omega, by omega⟩
theorem PInv.stays {a : Int} {n : Nat} {s : Bk} (h : PInv a n s) (k : ByteArray) : ∀ y ∈ rowOf s.st k, StayOK a y := fun y hy => h.sr k y hy
theorem due_spec {a : Int} {s : Bk} (h : PInv a 2000 s) (hb : BOK 2000 s) (ha : a ≤ 345686399999) (k : ByteArray) : m_club_books_due a s.st s.pd s.mo s.rf k = some (dueL a (rowOf s.st k)) ∧ 0 ≤ dueL a (rowOf s.st k) ∧ dueL a (rowOf s.st k) ≤ 268000000000000 := by
  have hr := hb.row k
  obtain ⟨g1, g2, g3⟩ := due_loop ha (rowOf s.st k) 0 0 (h.stays k) (Int.le_refl _) (by omega)
  unfold m_club_books_due
  rw [show (lkM s.st k).getD [] = rowOf s.st k from rfl, g1, Option.bind_some, fin_brk, Int.zero_add]
  exact ⟨rfl, g2, by omega⟩
def paidOf (pd : List (ByteArray × Int)) (k : ByteArray) : Int := (lkM pd k).getD 0
theorem paid_rng {a : Int} {s : Bk} (h : PInv a 2000 s) (k : ByteArray) : 0 ≤ paidOf s.pd k ∧ paidOf s.pd k ≤ 2000000000000 := by
  unfold paidOf
  cases hl : lkM s.pd k with
  | none => simp only [Option.getD_none]; omega
  | some v => have := (h.pv _ (lkM_mem hl)).2; simp only [Option.getD_some] at this ⊢; omega
def balOf (d p : Int) : Int × Int := if d > 1000000000000 ∨ p > 1000000000000 then (0, 12) else (p - d, 0)
theorem balance_spec {a : Int} {s : Bk} (h : PInv a 2000 s) (hb : BOK 2000 s) (ha : a ≤ 345686399999) (k : ByteArray) : m_club_books_balance a s.st s.pd s.mo s.rf k = some (balOf (dueL a (rowOf s.st k)) (paidOf s.pd k)) := by
  obtain ⟨g1, g2, g3⟩ := due_spec h hb ha k
  obtain ⟨p1, p2⟩ := paid_rng h k
  unfold m_club_books_balance balOf
  rw [g1, Option.bind_some, show (lkM s.pd k).getD 0 = paidOf s.pd k from rfl]
  by_cases h1 : dueL a (rowOf s.st k) > 1000000000000
  · rw [decide_eq_true h1, if_pos (.inl h1)]; rfl
  · rw [decide_eq_false h1, ifB_false, Option.bind_some, fin_inl]
    by_cases h2 : paidOf s.pd k > 1000000000000
    · rw [decide_eq_true h2, if_pos (.inr h2)]; rfl
    · rw [decide_eq_false h2, if_neg (by omega), ifB_false, w64_id (by omega)]
theorem lkM_cons {V : Type} (p : ByteArray × V) (l : List (ByteArray × V)) (k : ByteArray) : lkM (p :: l) k = if p.1 = k then some p.2 else lkM l k := by
  unfold lkM
  rw [List.find?_cons]
  by_cases h : p.1 = k
  · rw [decide_eq_true h, if_pos h]; rfl
  · rw [decide_eq_false h, if_neg h]
def lsum : List (ByteArray × Int) → Int
  | [] => 0
  | x :: t => x.2 + lsum t
end Go.G
