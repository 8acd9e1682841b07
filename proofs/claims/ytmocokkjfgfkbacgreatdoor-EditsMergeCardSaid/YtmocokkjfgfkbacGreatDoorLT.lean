/- LT: the law of the played bars holds of its model at every seed, in plain Lean. No program in sight. -/
import Derived.Test.YtmocokkjfgfkbacGreatDoorLTE
namespace Go.G
open Go Go.J
theorem Equal_refl (xs : List Int) : m_slices_Equal_int_int xs xs = some true := by
  unfold m_slices_Equal_int_int
  have h : ((xs.length : Int) != (xs.length : Int)) = false := by simp
  rw [h, ifB_false]
  obtain ⟨s', h1, -⟩ := rangeM_invx (m_slices_Equal_int_int_l1 xs) xs (fun _ _ => True) (fun i x s hx _ => ⟨s, by
    unfold m_slices_Equal_int_int_l1
    rw [getI_of rfl hx, Option.bind_some]
    simp, trivial⟩) () trivial
  rw [h1]; rfl
def lowF (a b : Nat) : TFraction := ⟨(a : Int) / (Nat.gcd a b : Int), (b : Int) / (Nat.gcd a b : Int)⟩
theorem gcdLoop1 (a b : Nat) : loopM m_kit_Lowest_l1 ((a : Int), (b : Int)) = some (.brk ((Nat.gcd a b : Int), 0)) := by
  obtain ⟨f, hf, rfl⟩ := loopM_post m_kit_Lowest_l1 (fun s => ∃ x y : Nat, s = ((x : Int), (y : Int)) ∧ Nat.gcd x y = Nat.gcd a b) (fun s => s.2.toNat) (fun f => f = .brk ((Nat.gcd a b : Int), 0)) (by
    rintro s ⟨x, y, rfl, hg⟩
    unfold m_kit_Lowest_l1
    by_cases hy : y = 0
    · subst hy
      rw [Nat.gcd_zero_right] at hg
      exact .inr (.inl ⟨_, rfl, by rw [hg]; rfl⟩)
    · have h1 : ((y : Int) != 0) = true := by simpa using hy
      have h2 : ((x : Int)).tmod (y : Int) = ((x % y : Nat) : Int) := rfl
      refine .inl ⟨((y : Int), ((x % y : Nat) : Int)), ?_, ⟨y, x % y, rfl, ?_⟩, ?_⟩
      · simp only
        rw [h1, ifB_true, remM_of (by omega), Option.bind_some, h2]
      · rw [← hg, Nat.gcd_comm x y, Nat.gcd_comm y (x % y), ← Nat.gcd_rec]
      · have := Nat.mod_lt x (Nat.pos_of_ne_zero hy)
        simp only; omega) _ ⟨a, b, rfl, rfl⟩
  exact hf
theorem gcdLoop2 (a b : Nat) : loopM m_gleeref2_divisor_l1 ((a : Int), (b : Int)) = some (.brk ((Nat.gcd a b : Int), 0)) := by
  obtain ⟨f, hf, rfl⟩ := loopM_post m_gleeref2_divisor_l1 (fun s => ∃ x y : Nat, s = ((x : Int), (y : Int)) ∧ Nat.gcd x y = Nat.gcd a b) (fun s => s.2.toNat) (fun f => f = .brk ((Nat.gcd a b : Int), 0)) (by
    rintro s ⟨x, y, rfl, hg⟩
    unfold m_gleeref2_divisor_l1
    by_cases hy : y = 0
    · subst hy
      rw [Nat.gcd_zero_right] at hg
      exact .inr (.inl ⟨_, rfl, by rw [hg]; rfl⟩)
    · have h1 : ((y : Int) != 0) = true := by simpa using hy
      have h2 : ((x : Int)).tmod (y : Int) = ((x % y : Nat) : Int) := rfl
      refine .inl ⟨((y : Int), ((x % y : Nat) : Int)), ?_, ⟨y, x % y, rfl, ?_⟩, ?_⟩
      · simp only
        rw [h1, ifB_true, remM_of (by omega), Option.bind_some, h2]
      · rw [← hg, Nat.gcd_comm x y, Nat.gcd_comm y (x % y), ← Nat.gcd_rec]
      · have := Nat.mod_lt x (Nat.pos_of_ne_zero hy)
        simp only; omega) _ ⟨a, b, rfl, rfl⟩
  exact hf
theorem quo_gcd (a b c : Nat) (hb : b ≠ 0) (_ : b ≤ 1000000000000) (hc : c ≤ 1000000000000) : quoM (c : Int) (Nat.gcd a b : Int) = some ((c : Int) / (Nat.gcd a b : Int)) := by
  have hg : 0 < Nat.gcd a b := Nat.gcd_pos_of_pos_right a (Nat.pos_of_ne_zero hb)
  rw [quoM_of (by omega)]
  have e : ((c : Int)).tdiv (Nat.gcd a b : Int) = ((c / Nat.gcd a b : Nat) : Int) := rfl
  have := Nat.div_le_self c (Nat.gcd a b)
  have h0 : (0 : Int) ≤ ((c / Nat.gcd a b : Nat) : Int) := Int.natCast_nonneg _
  rw [e, w64_id (by omega)]
  rfl
theorem kitLowest_spec (a b : Nat) (hb : b ≠ 0) (hb' : b ≤ 1000000000000) (ha : a ≤ 1000000000000) : m_kit_Lowest (a : Int) (b : Int) = some (lowF a b) := by
  unfold m_kit_Lowest
  rw [gcdLoop1, Option.bind_some, fin_brk]
  simp only
  rw [quo_gcd a b a hb hb' ha, Option.bind_some, quo_gcd a b b hb hb' hb']
  rfl
theorem refLowest_spec (a b : Nat) (hb : b ≠ 0) (hb' : b ≤ 1000000000000) (ha : a ≤ 1000000000000) : m_gleeref2_Lowest (a : Int) (b : Int) = some (lowF a b) := by
  have hg : 0 < Nat.gcd a b := Nat.gcd_pos_of_pos_right a (Nat.pos_of_ne_zero hb)
  have hg' : Nat.gcd a b ≤ b := Nat.gcd_le_right a (Nat.pos_of_ne_zero hb)
  have hd : m_gleeref2_divisor (a : Int) (b : Int) = some (Nat.gcd a b : Int) := by
    unfold m_gleeref2_divisor
    rw [gcdLoop2, Option.bind_some, fin_brk]
    simp only
    rw [w64_id (by omega)]
    congr 1
    omega
  unfold m_gleeref2_Lowest
  rw [hd, Option.bind_some, quo_gcd a b a hb hb' ha, Option.bind_some, quo_gcd a b b hb hb' hb']
  rfl
theorem Order_spec {bs : List TBar} (h : cB bs = 0) : m_piece_Order bs = some (expand bs (gsB none 0 bs), 0) ∧ m_gleeref2_OrderOf bs = some (expand bs (gsB none 0 bs)) := by
  obtain ⟨hl, r, hg, h1, h2, h3⟩ := cB_zero h
  refine ⟨?_, OrderOf_spec bs (by omega) r hg h1⟩
  unfold m_piece_Order
  rw [CheckBars_spec bs (by omega), h, Option.bind_some]
  show (m_piece_played bs).bind _ = _
  rw [played_spec h]; rfl
theorem written_spec : m_gleelaw2_written = some true := by
  have h : cB [TBar.mk 1 4 2 0 true] = 0 := by decide
  have e : expand [TBar.mk 1 4 2 0 true] (gsB none 0 [TBar.mk 1 4 2 0 true]) = [0, 0] := by decide
  have := (Order_spec h).1
  rw [e] at this
  unfold m_gleelaw2_written
  rw [this, Option.bind_some]
  show (m_slices_Equal_int_int [0, 0] [0, 0]).bind _ = _
  rw [Equal_refl]; rfl
end Go.G
