/- LYp: what all paid: Purse of package club. In plain Lean, no program in sight. -/
import Derived.Test.YtobglahldcnnmaaGreatDoorLY6
namespace Go.G
open Go Go.J
def isum : List (ByteArray × Int) → Int
  | [] => 0
  | x :: t => x.2 + isum t
theorem isum_perm {a b : List (ByteArray × Int)} (h : a.Perm b) : isum a = isum b := by
  induction h with
  | nil => rfl
  | cons x _ ih => simp only [isum, ih]
  | swap x y l => simp only [isum]; omega
  | trans _ _ h1 h2 => exact h1.trans h2
theorem w64_w64 (a b : Int) : w64 (w64 a + b) = w64 (a + b) := by
  unfold w64
  simp only [IntKind.wrap_i64]
  omega
theorem purse_loop : ∀ (t : List (ByteArray × Int)) (i : Nat) (n : Int), rangeM m_club_books_purse_l1 i t (w64 n) = some (.brk (w64 (n + isum t))) := by
  intro t
  induction t with
  | nil => intro i n; simp [isum]
  | cons x t ih =>
    intro i n
    rw [rangeM_cons]
    unfold m_club_books_purse_l1
    rw [Option.bind_some, run_nxt, w64_w64]
    have := ih (i + 1) (n + x.2)
    unfold m_club_books_purse_l1 at this
    rw [this]
    simp only [isum]
    rw [Int.add_assoc]
def purseOf (pd : List (ByteArray × Int)) : Int × Int := if w64 (isum pd) > 1000000000000 then (0, 12) else (w64 (isum pd), 0)
theorem purse_spec (a : Int) (st : Stays) (pd : List (ByteArray × Int)) (mo : Mots) (rf : List Int) : m_club_books_purse a st pd mo rf = some (purseOf pd) := by
  unfold m_club_books_purse
  refine anyOrd_of fun L hL => ?_
  have h := purse_loop L 0 0
  rw [show w64 0 = 0 from rfl, Int.zero_add, isum_perm hL] at h
  rw [h, Option.bind_some, fin_brk, ifB_ite]
  unfold purseOf
  split <;> rfl
theorem Purse_spec (l : List TAct) (at_ : Int) : m_club_Purse l at_ = some (if askF l at_ = 0 then purseOf (booksOf l at_).pd else (0, askF l at_)) := by
  unfold m_club_Purse
  rw [checkedAt_spec, Option.bind_some]
  by_cases h : askF l at_ = 0
  · simp only [if_pos h, optB_some]
    rw [show ((0 : Int) != 0) = false from rfl, ifB_false, purse_spec]; rfl
  · simp only [if_neg h, optB_none]
    rw [show (askF l at_ != 0) = true by simpa using h, ifB_true]
end Go.G
