/- Plain laws of the models; no condition beyond what each theorem says. -/
import Derived.Test.YtlhfimbpjdfdgacGreatDoorLU6r
namespace Go.G
open Go Go.J
set_option linter.unusedSimpArgs false
set_option linter.unusedVariables false
theorem lowLoopR (a b : Nat) : loopM m_piece_isLowest_l1 ((a : Int), (b : Int)) = some (.brk ((Nat.gcd a b : Int), 0)) := by
 obtain ⟨f, hf, rfl⟩ := loopM_post m_piece_isLowest_l1 (fun s => ∃ x y : Nat, s = ((x : Int), (y : Int)) ∧ Nat.gcd x y = Nat.gcd a b) (fun s => s.2.toNat) (fun f => f = .brk ((Nat.gcd a b : Int), 0)) (by
  rintro s ⟨x, y, rfl, hg⟩
  unfold m_piece_isLowest_l1
  by_cases hy : y = 0
  ·subst hy
   rw [Nat.gcd_zero_right] at hg
   exact .inr (.inl ⟨_, rfl, by rw [hg]; rfl⟩)
  ·have h1 : ((y : Int) != 0) = true := by simpa using hy
   have h2 : ((x : Int)).tmod (y : Int) = ((x % y : Nat) : Int) := rfl
   refine .inl ⟨((y : Int), ((x % y : Nat) : Int)), ?_, ⟨y, x % y, rfl, ?_⟩, ?_⟩
   ·simp only
    rw [h1, ifB_true, remM_of (by omega), Option.bind_some, h2]
   ·rw [← hg, Nat.gcd_comm x y, Nat.gcd_comm y (x % y), ← Nat.gcd_rec]
   ·have := Nat.mod_lt x (Nat.pos_of_ne_zero hy)
    simp only; omega) _ ⟨a, b, rfl, rfl⟩
 exact hf
theorem isLowest_low (k : Nat) (h1 : 1 ≤ k) (h2 : k ≤ 192) : m_piece_isLowest (lowF k 192) = some true := by
 obtain ⟨a, b, e, -, hb, -, -, hg, -⟩ := low_facts k h1 h2
 rw [e]
 unfold m_piece_isLowest
 simp only
 rw [lowLoopR, Option.bind_some, fin_brk, hg, decide_eq_true (show (b : Int) > 0 by omega), ifB_true]
 rfl
theorem txt_true {s : ByteArray} (h : s ∈ txs) : m_piece_isText s = some true := by
 simp only [txs, List.mem_cons, List.not_mem_nil, or_false] at h
 rcases h with rfl | rfl | rfl | rfl | rfl | rfl | rfl <;> kernel_rfl
theorem toneFault_zero {x : TTone} (h : RT x) : m_piece_toneFault x = some 0 := by
 have hg := h.good
 obtain ⟨k, h1, h2, h3⟩ := h.low
 have hL : m_piece_isLowest x.Long = some true := by rw [h3]; exact isLowest_low k h1 h2
 have hT := txt_true h.txt
 obtain ⟨a, b, e, f1, f2, f3, f4, f5, f6, f7⟩ := low_facts k h1 h2
 have hden : x.Long.Den ≤ 192 := by rw [h3, e]; simp only; omega
 have hnum := hg.num; have hden1 := hg.den; have hdm := hg.div; have hmost := hg.most
 unfold m_piece_toneFault
 simp only [OutB_spec, hL, hT, Option.bind_some]
 have c1 : ∀ {τ : Type} (k : Bool → Option τ), (ifB (x.Note != (-1)) (some (Sum.inl (outB x.Note 0 127))) (some (Sum.inl false)) : Option (Bool ⊕ τ)).bind (fun z => Sum.fin z k) = k ((x.Note != (-1)) && outB x.Note 0 127) := by
  intro τ k
  cases (x.Note != (-1)) <;> rfl
 have hb1 : ((x.Note != (-1)) && outB x.Note 0 127) = false := by
  unfold outB
  simp only [Bool.and_eq_false_iff, bne_eq_false_iff_eq, Bool.or_eq_false_iff, decide_eq_false_iff_not]
  rcases h.note with h | h <;> omega
 rw [c1, hb1]
 simp only [ifB_false]
 rw [decide_eq_false (show ¬ x.Long.Num < 1 by omega)]
 simp only [ifB_false, Bool.not_true, Option.bind_some, fin_inl]
 rw [remM_of (by omega), hdm]
 simp only [Option.bind_some, bne_self_eq_false, ifB_false, fin_inl]
 rw [w64_id (n := 16 * x.Long.Den) (by omega), decide_eq_false (show ¬ x.Long.Num > 16 * x.Long.Den by omega)]
 simp only [ifB_false, Bool.not_true]
 by_cases hs : x.Note = -1
 ·obtain ⟨t1, t2⟩ := h.sil hs
  rw [show (x.Note == (-1)) = true by simpa using hs, t1, t2, show (ByteArray.empty.toList == ByteArray.empty.toList) = true by simp]
  rfl
 ·rw [show (x.Note == (-1)) = false by simpa using hs]
  rfl
theorem units_specR {x : TTone} (h : TGood x) : m_piece_units x.Long = some (uT x) ∧ 1 ≤ uT x ∧ uT x ≤ 3072 := by
 obtain ⟨-, h1, h2, h3, h4⟩ := h
 have h5 : (192 : Int) = x.Long.Den * (192 : Int).tdiv x.Long.Den := by have := Int.mul_tdiv_add_tmod 192 x.Long.Den; omega
 have h6 : 0 ≤ (192 : Int).tdiv x.Long.Den := Int.tdiv_nonneg (by omega) (by omega)
 have h7 : (192 : Int).tdiv x.Long.Den ≠ 0 := fun h => by rw [h] at h5; omega
 have h8 : 1 * (192 : Int).tdiv x.Long.Den ≤ x.Long.Num * (192 : Int).tdiv x.Long.Den := Int.mul_le_mul_of_nonneg_right h1 h6
 have h9 : x.Long.Num * (192 : Int).tdiv x.Long.Den ≤ 16 * x.Long.Den * (192 : Int).tdiv x.Long.Den := Int.mul_le_mul_of_nonneg_right h4 h6
 rw [Int.mul_assoc, ← h5] at h9
 have h10 : 1 * (192 : Int).tdiv x.Long.Den ≤ x.Long.Den * (192 : Int).tdiv x.Long.Den := Int.mul_le_mul_of_nonneg_right h2 h6
 have b1 : 1 ≤ uT x := by unfold uT; omega
 have b2 : uT x ≤ 3072 := by unfold uT; omega
 refine ⟨?_, b1, b2⟩
 unfold m_piece_units
 rw [quoM_of (by omega), Option.bind_some, w64_id (n := (192 : Int).tdiv x.Long.Den) (by omega)]
 show some (w64 (uT x)) = _
 rw [w64_id (by omega)]
theorem carries_specR (x y : TTone) : m_piece_carries x y = some (carryB x y) := by
 unfold m_piece_carries carryB
 rw [show (y.Note == x.Note) = (x.Note == y.Note) from Bool.beq_comm]
 cases (x.Note == y.Note) <;> rfl
theorem sumU_nonnegR {t : List TTone} (h : ∀ x ∈ t, RT x) : 0 ≤ sumU t := by
 induction t with
 | nil => simp [sumU]
 | cons x t ih =>
  have h1 := (units_specR (h x (List.mem_cons_self ..)).good).2.1
  have h2 := ih fun y hy => h y (List.mem_cons_of_mem _ hy)
  show 0 ≤ uT x + sumU t
  omega
theorem fill_loopR (bs : List TBar) (hb : ∀ x ∈ bs, bad x = false) (hl : bs.length ≤ 600) : ∀ (t : List TTone) (i bar : Nat) (left : Int) (g0 : List TTone) (gs : List (List TTone)), (∀ x ∈ t, RT x) → t = g0 ++ List.flatten gs → sumU g0 = left →
  gs.map sumU = (bs.drop bar).map lB → bar ≤ bs.length → left ≤ 3072 → rangeM (m_piece_checkTones_l1 bs) i t ((bar : Int), left) = some (.brk ((bs.length : Int), 0))
 | [], i, bar, left, g0, gs, _, h1, h2, h3, h4, _ => by
  have h5 := List.append_eq_nil_iff.1 h1.symm
  rw [h5.1] at h2
  have hbar : bar = bs.length := by
   by_cases hlt : bar < bs.length
   ·rw [List.drop_eq_getElem_cons hlt, List.map_cons] at h3
    cases gs with
    | nil => cases h3
    | cons g gs =>
     rw [List.map_cons] at h3
     have h6 := (List.cons.inj h3).1
     have h7 := (long_specR (hb _ (List.getElem_mem hlt))).2.1
     have h8 : g = [] := (List.append_eq_nil_iff.1 (show g ++ List.flatten gs = [] from h5.2)).1
     rw [h8] at h6
     have : sumU [] = 0 := rfl
     omega
   ·omega
  have : left = 0 := h2.symm
  rw [hbar, this]; rfl
 | x :: t, i, bar, left, g0, gs, ht, h1, h2, h3, h4, h5 => by
  have hx := ht x (List.mem_cons_self ..)
  have ht' : ∀ y ∈ t, RT y := fun y hy => ht y (List.mem_cons_of_mem _ hy)
  obtain ⟨u1, u2, u3⟩ := units_specR hx.good
  cases g0 with
  | cons y g0 =>
   rw [List.cons_append] at h1
   obtain ⟨rfl, h1'⟩ := List.cons.inj h1
   have h6 : uT x + sumU g0 = left := h2
   have h7 : 0 ≤ sumU g0 := sumU_nonnegR fun y hy => ht' y (by rw [h1']; exact List.mem_append_left _ hy)
   have hz : (left == 0) = false := by simp; omega
   have step : m_piece_checkTones_l1 bs i x ((bar : Int), left) = some (.nxt ((bar : Int), left - uT x)) := by
    unfold m_piece_checkTones_l1
    simp only [toneFault_zero hx, Option.bind_some, bne_self_eq_false, ifB_false, hz, fin_inl, u1]
    rw [decide_eq_false (by omega), ifB_false, w64_id (by omega)]
   rw [rangeM_cons, step, Option.bind_some, run_nxt]
   exact fill_loopR bs hb hl t (i + 1) bar (left - uT x) g0 gs ht' h1' (by omega) h3 h4 (by omega)
  | nil =>
   have h6 : left = 0 := h2.symm
   subst h6
   cases gs with
   | nil => simp at h1
   | cons g gs =>
    have hlt : bar < bs.length := by
     by_cases hlt : bar < bs.length
     ·exact hlt
     ·rw [List.drop_eq_nil_of_le (by omega)] at h3; cases h3
    rw [List.drop_eq_getElem_cons hlt, List.map_cons, List.map_cons] at h3
    obtain ⟨h7, h8⟩ := List.cons.inj h3
    obtain ⟨l1, l2, l3, -⟩ := long_specR (hb _ (List.getElem_mem hlt))
    cases g with
    | nil => have : sumU [] = 0 := rfl; omega
    | cons y g =>
     have h1 : x :: t = y :: (g ++ List.flatten gs) := by simpa using h1
     obtain ⟨rfl, h1'⟩ := List.cons.inj h1
     have h9 : uT x + sumU g = lB bs[bar] := h7
     have h10 : 0 ≤ sumU g := sumU_nonnegR fun y hy => ht' y (by rw [h1']; exact List.mem_append_left _ hy)
     have step : m_piece_checkTones_l1 bs i x ((bar : Int), 0) = some (.nxt (((bar + 1 : Nat) : Int), lB bs[bar] - uT x)) := by
      unfold m_piece_checkTones_l1
      have e : ((bar : Int) == (bs.length : Int)) = false := by simp; omega
      simp only [toneFault_zero hx, Option.bind_some, bne_self_eq_false, ifB_false, beq_self_eq_true, ifB_true, e, getI_of (n := bar) rfl (List.getElem?_eq_getElem hlt), l1, fin_inl, u1]
      rw [w64_id (by omega), decide_eq_false (by omega), ifB_false, w64_id (by omega)]; rfl
     rw [rangeM_cons, step, Option.bind_some, run_nxt]
     exact fill_loopR bs hb hl t (i + 1) (bar + 1) _ g gs ht' h1' (by omega) h8 (by omega) (by omega)
theorem tie_stepR (t : List TTone) (hl : t.length ≤ 2000) (i : Nat) (x : TTone) (hx : t[i]? = some x) (h : x.Tied = true → ∃ y, t[i + 1]? = some y ∧ carryB x y = true) : m_piece_checkTones_l2 t false i x () = some (.nxt ()) := by
 have hi : i < t.length := (List.getElem?_eq_some_iff.1 hx).1
 unfold m_piece_checkTones_l2
 cases ht : x.Tied with
 | false => rfl
 | true =>
  obtain ⟨y, hy, hc⟩ := h ht
  have hi2 : i + 1 < t.length := (List.getElem?_eq_some_iff.1 hy).1
  rw [w64_id (n := (t.length : Int) - 1) (by omega), w64_id (n := (i : Int) + 1) (by omega)]
  have e1 : ((i : Int) == (t.length : Int) - 1) = false := by simp; omega
  have e2 : decide ((i : Int) < (t.length : Int) - 1) = true := decide_eq_true (by omega)
  have e6 : getI t ((i : Int) + 1) = some y := getI_of (n := i + 1) (by omega) hy
  simp only [e1, e2, e6, ifB_true, ifB_false, Option.bind_some, carries_specR, hc, Bool.not_true]
theorem CheckTones_zero {bs : List TBar} {t : List TTone} (hc : cB bs = 0) (h : FillsR bs t) : m_piece_CheckTones bs t = some 0 := by
 obtain ⟨hl, r, hg, -⟩ := cB_zero hc
 have hb := goB_all bs _ r hg
 unfold m_piece_CheckTones
 rw [CheckBars_spec bs (by omega), hc, Option.bind_some, bne_self_eq_false, ifB_false]
 unfold m_piece_checkTones
 have hlen := h.len
 obtain ⟨gs, e1, e2⟩ := h.seg
 have h1 := fill_loopR bs hb (by omega) t 0 0 0 [] gs h.rt (by simpa using e1) rfl (by simpa using e2) (Nat.zero_le _) (by omega)
 rw [decide_eq_false (by omega), ifB_false, show ((0 : Int), (0 : Int)) = (((0 : Nat) : Int), (0 : Int)) from rfl, h1, Option.bind_some, fin_brk]
 simp only
 rw [decide_eq_false (show ¬ (0 : Int) > 0 by omega), decide_eq_false (Int.lt_irrefl _)]
 obtain ⟨s, h2, -⟩ := rangeM_invx (m_piece_checkTones_l2 t false) t (fun _ _ => True) (fun i x s hx _ => ⟨(), tie_stepR t hlen i x hx (h.tie i x hx), trivial⟩) () trivial
 simp only [ifB_false, Option.bind_some, fin_inl, h2, fin_brk]
end Go.G
