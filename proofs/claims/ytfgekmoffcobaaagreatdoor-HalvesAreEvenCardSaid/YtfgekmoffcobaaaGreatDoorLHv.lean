/- LHv: the law of the even halves. In plain Lean, no program in sight. -/
import Derived.Test.YtfgekmoffcobaaaGreatDoorLQ2
import Derived.Test.YtfgekmoffcobaaaGreatDoorLR1
namespace Go.G
open Go Go.J
theorem pk {p : TProgram} (h : ProgOK p) {its : List TItem} (hl : its.length ≤ 60) (hi : ∀ x ∈ its, x ∈ p.Items) : ProgOK (TProgram.mk its p.Change p.Clap p.Break (-1)) := by
  constructor
  · exact hl
  · intro i x hx
    obtain ⟨k, hk, rfl⟩ := List.getElem_of_mem (hi x (List.mem_of_getElem? hx))
    exact h.item k _ (List.getElem?_eq_getElem hk)
  all_goals first | exact h.ch1 | exact h.ch2 | exact h.cl1 | exact h.cl2 | exact h.br1 | exact h.br2 | exact Int.le_refl _ | exact .inl rfl
/-- how long the two halves are, and by how much they differ -/
def hA (p : TProgram) (i : Nat) : Int := bg ⟨p.Items.take (i + 1), p.Change, p.Clap, p.Break, -1⟩ (p.Items.take (i + 1)).length
def hB (p : TProgram) (i : Nat) : Int := bg ⟨p.Items.drop (i + 1), p.Change, p.Clap, p.Break, -1⟩ (p.Items.drop (i + 1)).length
def hD (p : TProgram) (i : Nat) : Int := max (hA p i - hB p i) (hB p i - hA p i)
def hS (p : TProgram) : Nat → Int × Int
  | 0 => (-1, 0)
  | i + 1 => if (hS p i).1 < 0 ∨ hD p i < (hS p i).2 then ((i : Int), hD p i) else hS p i
theorem hA_rng {p : TProgram} (h : ProgOK p) (i : Nat) : 0 ≤ hA p i ∧ hA p i ≤ 60 * 172800000 := by
  have hl := h.len
  have := bg_rng (pk h (its := p.Items.take (i + 1)) (by simp; omega) (fun x hx => List.mem_of_mem_take hx)) (p.Items.take (i + 1)).length
  unfold hA
  simp only [List.length_take] at this ⊢
  omega
theorem hB_rng {p : TProgram} (h : ProgOK p) (i : Nat) : 0 ≤ hB p i ∧ hB p i ≤ 60 * 172800000 := by
  have hl := h.len
  have := bg_rng (pk h (its := p.Items.drop (i + 1)) (by simp; omega) (fun x hx => List.mem_of_mem_drop hx)) (p.Items.drop (i + 1)).length
  unfold hB
  simp only [List.length_drop] at this ⊢
  omega
theorem longOf_spec {p : TProgram} (h : ProgOK p) {its : List TItem} (hl : its.length ≤ 60) (hi : ∀ x ∈ its, x ∈ p.Items) : m_concert_longOf p its = some (bg ⟨its, p.Change, p.Clap, p.Break, -1⟩ its.length) := by
  unfold m_concert_longOf
  rw [begins_spec (pk h hl hi)]; rfl
theorem ifB_or {α : Type} (a b : Bool) : (ifB a (some (.inl true)) (some (.inl b)) : Option (Bool ⊕ α)) = some (.inl (a || b)) := by cases a <;> rfl
theorem hD_nn {p : TProgram} (i : Nat) : 0 ≤ hD p i := by unfold hD; omega
theorem hS_spec (p : TProgram) : ∀ n, 1 ≤ n → 0 ≤ (hS p n).1 ∧ (hS p n).1 < n ∧ (hS p n).2 = hD p (hS p n).1.toNat ∧ (∀ j : Nat, j < n → (hS p n).2 ≤ hD p j) ∧ ∀ j : Nat, (j : Int) < (hS p n).1 → (hS p n).2 < hD p j := by
  intro n
  induction n with
  | zero => intro h; omega
  | succ n ih =>
    intro _
    by_cases h0 : n = 0
    · subst h0
      have e : hS p (0 + 1) = (((0 : Nat) : Int), hD p 0) := by
        show (if _ then _ else _) = _
        rw [if_pos (.inl (by show (-1 : Int) < 0; omega))]
      rw [e]
      refine ⟨by simp, by simp, by simp, fun j hj => ?_, fun j hj => by simp at hj; omega⟩
      have : j = 0 := by omega
      subst this; exact Int.le_refl _
    · obtain ⟨h1, h2, h3, h4, h5⟩ := ih (by omega)
      by_cases g : hD p n < (hS p n).2
      · have e : hS p (n + 1) = ((n : Int), hD p n) := by
          show (if _ then _ else _) = _
          rw [if_pos (.inr g)]
        rw [e]
        refine ⟨by simp, by simp only; omega, by simp, fun j hj => ?_, fun j hj => ?_⟩
        · simp only
          by_cases hjn : j = n
          · subst hjn; exact Int.le_refl _
          · have := h4 j (by omega); omega
        · simp only at hj ⊢
          have := h4 j (by omega); omega
      · have e : hS p (n + 1) = hS p n := by
          show (if _ then _ else _) = _
          rw [if_neg (by omega)]
        rw [e]
        refine ⟨h1, by omega, h3, fun j hj => ?_, h5⟩
        by_cases hjn : j = n
        · subst hjn; omega
        · exact h4 j (by omega)
theorem Half_good {p : TProgram} (h : GoodP p) (h2 : 2 ≤ p.Items.length) : m_concert_Half p = some ((hS p (p.Items.length - 1)).1, (hS p (p.Items.length - 1)).2, 0) := by
  have o := h.ok
  have hl := o.len
  unfold m_concert_Half
  rw [CheckProgram_zero h, Option.bind_some, show ((0 : Int) != 0) = false from rfl, ifB_false, decide_eq_false (by omega), ifB_false, w64_id (by omega), rangeI_of (by omega), Option.bind_some]
  obtain ⟨s, h3, h4⟩ := rangeM_invx (m_concert_Half_l1 p) (List.range ((p.Items.length : Int) - 1).toNat) (fun i s => s = hS p i) (by
    rintro i x s hx rfl
    have hi := (List.getElem?_eq_some_iff.1 hx).1
    rw [List.length_range] at hi
    have a1 := hA_rng o i; have a2 := hB_rng o i
    unfold m_concert_Half_l1
    rw [w64_id (n := (i : Int) + 1) (by omega), sliceI_of (lo := 0) (hi := (i : Int) + 1) (a := 0) (b := i + 1) rfl (by omega) (by omega) (by omega), Option.bind_some, List.drop_zero, Nat.sub_zero, longOf_spec o (by simp; omega) (fun x hx => List.mem_of_mem_take hx), Option.bind_some,
      sliceI_of (a := i + 1) (b := p.Items.length) (by omega) rfl (by omega) (by omega), Option.bind_some, show (p.Items.drop (i + 1)).take (p.Items.length - (i + 1)) = p.Items.drop (i + 1) from List.take_of_length_le (by simp), longOf_spec o (by simp; omega) (fun x hx => List.mem_of_mem_drop hx), Option.bind_some]
    rw [show (bg ⟨p.Items.take (i + 1), p.Change, p.Clap, p.Break, -1⟩ (p.Items.take (i + 1)).length) = hA p i from rfl, show (bg ⟨p.Items.drop (i + 1), p.Change, p.Clap, p.Break, -1⟩ (p.Items.drop (i + 1)).length) = hB p i from rfl]
    rw [w64_id (n := hA p i - hB p i) (by omega), w64_id (n := hB p i - hA p i) (by omega), show max (hA p i - hB p i) (hB p i - hA p i) = hD p i from rfl, ifB_or, Option.bind_some, fin_inl]
    refine ⟨hS p (i + 1), ?_, rfl⟩
    simp only [hS]
    by_cases g : (hS p i).1 < 0 ∨ hD p i < (hS p i).2
    · rw [if_pos g, show (decide ((hS p i).1 < 0) || decide (hD p i < (hS p i).2)) = true by simpa using g]; rfl
    · rw [if_neg g, show (decide ((hS p i).1 < 0) || decide (hD p i < (hS p i).2)) = false by simp only [Bool.or_eq_false_iff, decide_eq_false_iff_not]; omega]; rfl) ((-1), 0) rfl
  rw [h3, Option.bind_some, fin_brk, h4, List.length_range, show ((p.Items.length : Int) - 1).toNat = p.Items.length - 1 by omega]
/-- THE LAW: at every seed the answer is true. -/
theorem HalvesAreEven_true (L : List Int) : m_gleekeep2_HalvesAreEven L = some true := by
  unfold m_gleekeep2_HalvesAreEven
  obtain ⟨p, q, h1, h2, h3, h4, hr⟩ := RightProgram_right L (q := 0) (most := 5) (by omega) (by omega) (by omega) (by omega)
  have h := hr.good
  have hl := hr.len
  rw [h1, Option.bind_some]
  simp only
  by_cases g : p.Items.length < 2
  · have hh : m_concert_Half p = some (0, 0, 8) := by
      unfold m_concert_Half
      rw [CheckProgram_zero h, Option.bind_some, show ((0 : Int) != 0) = false from rfl, ifB_false, decide_eq_true (by omega), ifB_true]
    rw [hh, Option.bind_some, decide_eq_true (by omega), ifB_true, ready_true]; rfl
  · rw [Half_good h (by omega), Option.bind_some, decide_eq_false (by omega), ifB_false]
    obtain ⟨e1, e2, e3, e4, e5⟩ := hS_spec p (p.Items.length - 1) (by omega)
    generalize hS p (p.Items.length - 1) = s at e1 e2 e3 e4 e5
    simp only
    rw [show ((0 : Int) != 0) = false from rfl, ifB_false, decide_eq_false (by omega), ifB_false, w64_id (by omega), decide_eq_false (by omega), Option.bind_some, fin_inl, ifB_false]
    obtain ⟨f, k1, k2⟩ := loopM_post (m_gleekeep2_HalvesAreEven_l1 (p, q) (s.1, s.2, 0)) (fun i => ∃ n : Nat, i = n ∧ n + 1 ≤ p.Items.length) (fun i => (p.Items.length - i).toNat) (fun f => ∃ i, f = .brk i) (by
      rintro i ⟨n, rfl, hn⟩
      unfold m_gleekeep2_HalvesAreEven_l1
      simp only
      have w1 : w64 ((n : Int) + 1) = ((n + 1 : Nat) : Int) := by rw [w64_id (by omega)]; rfl
      rw [w1]
      by_cases hi : ((n + 1 : Nat) : Int) < (p.Items.length : Int)
      · have a1 := hA_rng h.ok n; have a2 := hB_rng h.ok n
        rw [decide_eq_true hi, ifB_true, Option.bind_some, fin_inl, sliceI_of (lo := 0) (hi := ((n + 1 : Nat) : Int)) (a := 0) (b := n + 1) rfl rfl (by omega) (by omega), Option.bind_some, List.drop_zero, Nat.sub_zero,
          sliceI_of (lo := ((n + 1 : Nat) : Int)) (a := n + 1) (b := p.Items.length) rfl rfl (by omega) (by omega), Option.bind_some, show (p.Items.drop (n + 1)).take (p.Items.length - (n + 1)) = p.Items.drop (n + 1) from List.take_of_length_le (by simp),
          Long_zero (h.sub (List.take_sublist _ _)), Option.bind_some, Long_zero (h.sub (List.drop_sublist _ _)), Option.bind_some]
        simp only
        rw [show (bg ⟨p.Items.take (n + 1), p.Change, p.Clap, p.Break, -1⟩ (p.Items.take (n + 1)).length) = hA p n from rfl, show (bg ⟨p.Items.drop (n + 1), p.Change, p.Clap, p.Break, -1⟩ (p.Items.drop (n + 1)).length) = hB p n from rfl]
        rw [w64_id (n := hA p n - hB p n) (by omega), w64_id (n := hB p n - hA p n) (by omega), show max (hA p n - hB p n) (hB p n - hA p n) = hD p n from rfl, show m_gleekeep2_errs [0, 0] = some 0 from rfl, Option.bind_some, show ((0 : Int) != 0) = false from rfl, ifB_false]
        have b1 := e4 n (by omega)
        have b2 := e5 n
        have hfin : (ifB (decide (hD p n < s.2)) (some (.inl true)) (ifB ((n : Int) == s.1) (ifB (hD p n != s.2) (some (.inl true)) (ifB (decide ((n : Int) < s.1)) (some (.inl (hD p n == s.2))) (some (.inl false)))) (ifB (decide ((n : Int) < s.1)) (some (.inl (hD p n == s.2))) (some (.inl false)))) : Option (Bool ⊕ (Flow Int Bool))) = some (.inl false) := by
          rw [decide_eq_false (by omega), ifB_false]
          by_cases c1 : (n : Int) = s.1
          · have : hD p n = s.2 := by rw [e3, ← c1]; rfl
            rw [show ((n : Int) == s.1) = true by simpa using c1, ifB_true, show (hD p n != s.2) = false by simpa using this, ifB_false, decide_eq_false (by omega), ifB_false]
          · rw [show ((n : Int) == s.1) = false by simpa using c1, ifB_false]
            by_cases c2 : (n : Int) < s.1
            · have := b2 c2
              rw [decide_eq_true c2, ifB_true, show (hD p n == s.2) = false by simp; omega]
            · rw [decide_eq_false c2, ifB_false]
        rw [hfin, Option.bind_some, fin_inl, ifB_false]
        exact .inl ⟨_, rfl, ⟨n + 1, rfl, by omega⟩, by omega⟩
      · rw [decide_eq_false hi, ifB_false]
        exact .inr (.inl ⟨_, rfl, _, rfl⟩)) 0 ⟨0, rfl, by omega⟩
    obtain ⟨i, rfl⟩ := k2
    rw [k1, Option.bind_some, fin_brk, ready_true]; rfl
end Go.G
