/- Plain laws of the models; no condition beyond what each theorem says. -/
import Derived.Test.YtlhfimbpjdfdgacGreatDoorLT
import Derived.Test.YtlhfimbpjdfdgacGreatDoorLS1
namespace Go.G
open Go Go.J
set_option linter.unusedSimpArgs false
def inW (n : Int) : Prop := -9223372036854775808 ≤ n ∧ n ≤ 9223372036854775807
theorem lowLoop (n : Nat) : ∀ (a b : Int), b.natAbs = n → inW a → inW b → ∃ g, loopM m_piece_isLowest_l1 (a, b) = some (.brk (g, 0)) ∧ loopM m_gleeref2_divisor_l1 (a, b) = some (.brk (g, 0)) ∧ inW g := by
 induction n using Nat.strongRecOn with
 | _ n ih =>
  intro a b hb ha hr
  by_cases h0 : b = 0
  ·subst h0
   exact ⟨a, by rw [loopM_step (g := .brk (a, 0)) rfl]; rfl, by rw [loopM_step (g := .brk (a, 0)) rfl]; rfl, ha⟩
  ·have h1 : (b != 0) = true := by simpa using h0
   have hlt : (a.tmod b).natAbs < b.natAbs := by rw [Int.natAbs_tmod]; exact Nat.mod_lt _ (by omega)
   have hrr : inW (a.tmod b) := by unfold inW at *; omega
   obtain ⟨g, h2, h3, h4⟩ := ih _ (hb ▸ hlt) b (a.tmod b) rfl hr hrr
   have e1 : m_piece_isLowest_l1 (a, b) = some (.nxt (b, a.tmod b)) := by
    unfold m_piece_isLowest_l1
    simp only [h1, ifB_true, remM_of h0, Option.bind_some]
   have e2 : m_gleeref2_divisor_l1 (a, b) = some (.nxt (b, a.tmod b)) := by
    unfold m_gleeref2_divisor_l1
    simp only [h1, ifB_true, remM_of h0, Option.bind_some]
   exact ⟨g, by rw [loopM_step e1]; exact h2, by rw [loopM_step e2]; exact h3, h4⟩
theorem isLowest_spec (f : TFraction) (hn : inW f.Num) (hd : inW f.Den) : ∃ (b : Bool) (d : Int), m_piece_isLowest f = some b ∧ m_gleeref2_divisor f.Num f.Den = some d ∧ b = !(decide (f.Den < 1) || d != 1) := by
 obtain ⟨g, h1, h2, h3⟩ := lowLoop _ f.Num f.Den rfl hn hd
 refine ⟨ifB (decide (f.Den > 0)) (g == 1 || g == -1) false, max g (w64 (0 - g)), ?_, by unfold m_gleeref2_divisor; rw [h2]; rfl, ?_⟩
 ·unfold m_piece_isLowest
  rw [h1, Option.bind_some, fin_brk]
  cases decide (f.Den > 0) <;> cases hg : (g == 1) <;> simp [hg]
 unfold inW at h3
 have e : (max g (w64 (0 - g)) != 1) = !(g == 1 || g == -1) := by
  by_cases hm : g = -9223372036854775808
  ·subst hm; decide
  ·rw [w64_id (by omega)]
   by_cases p : g = 1
   ·subst p; rfl
   ·by_cases q : g = -1
    ·subst q; rfl
    ·have h4 : (max g (0 - g) != 1) = true := by rw [bne_iff_ne]; omega
     have h5 : (g == 1) = false := by simpa using p
     have h6 : (g == -1) = false := by simpa using q
     rw [h4, h5, h6]; rfl
 rw [e]
 by_cases hd0 : f.Den > 0
 ·have : ¬ f.Den < 1 := by omega
  simp only [hd0, this, decide_true, decide_false, ifB_true, Bool.false_or, Bool.not_not]
 ·have : f.Den < 1 := by omega
  simp [hd0, this]
theorem text_spec (s : ByteArray) (hs : s.size ≤ 1000000) : ∃ b, m_piece_isText s = some b ∧ m_gleeref2_textFault s = some (!b) ∧ (b = true → s.size ≤ 20 ∧ ∀ (j : Nat) c, j < s.size → strI s (j : Int) = some c → 33 ≤ c) := by
 have hv : m_utf8_ValidString s = some (Lib.validD s.data.toList) := by
  unfold m_utf8_ValidString
  rw [if_pos (by omega)]
 unfold m_piece_isText m_gleeref2_textFault
 rw [hv]
 simp only [Option.bind_some]
 generalize Lib.validD s.data.toList = v
 by_cases h20 : (s.size : Int) > 20
 ·refine ⟨false, ?_, ?_, fun h => by cases h⟩
  ·simp only [h20, decide_true, ifB_true, Option.bind_some, fin_inl]
  ·cases v <;> simp only [h20, decide_true, ifB_true, ifB_false, Option.bind_some, fin_inl, Bool.not_true, Bool.not_false]
 ·simp only [h20, decide_false, ifB_false, Option.bind_some, fin_inl]
  cases v with
  | false => exact ⟨false, by simp only [Bool.not_false, ifB_true, Option.bind_some, fin_inl], by simp only [Bool.not_false, ifB_true, Option.bind_some, fin_inl], fun h => by cases h⟩
  | true =>
   simp only [Bool.not_true, ifB_false, Option.bind_some, fin_inl]
   rw [rangeI_of (by omega), Option.bind_some, Option.bind_some]
   have key : ∀ (t : List Nat) (i : Nat), i + t.length ≤ s.size → (rangeM (m_piece_isText_l1 s) i t () = some (.brk ()) ∧ rangeM (m_gleeref2_textFault_l1 s) i t () = some (.brk ()) ∧ ∀ (j : Nat) c, i ≤ j → j < i + t.length → strI s (j : Int) = some c → 33 ≤ c) ∨ (rangeM (m_piece_isText_l1 s) i t () = some (.ret false) ∧ rangeM (m_gleeref2_textFault_l1 s) i t () = some (.ret true)) := by
    intro t
    induction t with
    | nil => intro i _; exact .inl ⟨rfl, rfl, fun j c h1 h2 => by simp at h2; omega⟩
    | cons x t ih =>
     intro i hi
     simp only [List.length_cons] at hi
     have hc : ∃ c, strI s (i : Int) = some c := by
      unfold strI
      rw [if_pos (by omega)]
      have : i < s.size := by omega
      exact ⟨_, by rw [Int.toNat_natCast, getElem?_pos s i this]; rfl⟩
     obtain ⟨c, hc⟩ := hc
     have e : ∃ b : Bool, m_piece_isText_l1 s i x () = some (bif b then .ret false else .nxt ()) ∧ m_gleeref2_textFault_l1 s i x () = some (bif b then .ret true else .nxt ()) ∧ (b = false → 33 ≤ c) := by
      unfold m_piece_isText_l1 m_gleeref2_textFault_l1
      simp only [hc, Option.bind_some]
      by_cases h1 : c < 33
      ·exact ⟨true, by simp [h1], by simp [h1], fun h => by cases h⟩
      ·cases h2 : (c == 127)
       ·cases h3 : (c == 124)
        ·exact ⟨false, by simp [h1], by simp [h1], fun _ => by omega⟩
        ·exact ⟨true, by simp [h1], by simp [h1], fun h => by cases h⟩
       ·exact ⟨true, by simp [h1], by simp [h1], fun h => by cases h⟩
     obtain ⟨b, e1, e2, e3⟩ := e
     rw [rangeM_cons, rangeM_cons, e1, e2]
     cases b
     ·rcases ih (i + 1) (by omega) with ⟨q1, q2, q3⟩ | q
      ·refine .inl ⟨q1, q2, fun j c' h1 h2 hc' => ?_⟩
       simp only [List.length_cons] at h2
       by_cases hj : j = i
       ·subst hj
        rw [hc] at hc'; cases hc'
        exact e3 rfl
       ·exact q3 j c' (by omega) (by omega) hc'
      ·exact .inr q
     ·exact .inr ⟨rfl, rfl⟩
   rcases key (List.range (s.size : Int).toNat) 0 (by simp) with ⟨h1, h2, h3⟩ | ⟨h1, h2⟩
   ·exact ⟨true, by rw [h1]; rfl, by rw [h2]; rfl, fun _ => ⟨by omega, fun j c hj hc => h3 j c (Nat.zero_le _) (by simpa using hj) hc⟩⟩
   ·exact ⟨false, by rw [h1]; rfl, by rw [h2]; rfl, fun h => by cases h⟩
structure TOk (x : TTone) : Prop where
 num : inW x.Long.Num
 den : inW x.Long.Den
 text : x.Text.size ≤ 1000000
structure TGood (x : TTone) : Prop where
 note : x.Note = -1 ∨ (0 ≤ x.Note ∧ x.Note ≤ 127)
 num : 1 ≤ x.Long.Num
 den : 1 ≤ x.Long.Den
 div : (192 : Int).tmod x.Long.Den = 0
 most : x.Long.Num ≤ 16 * x.Long.Den
 text : x.Text.size ≤ 20
 byte : ∀ (j : Nat) c, j < x.Text.size → strI x.Text (j : Int) = some c → 33 ≤ c
theorem toneFault_spec (x : TTone) (h : TOk x) : ∃ k, m_piece_toneFault x = some k ∧ m_gleeref2_toneFault x = some k ∧ (k = 0 → TGood x) := by
 obtain ⟨b, d, h1, h2, rfl⟩ := isLowest_spec x.Long h.num h.den
 obtain ⟨t, h3, h4, h5⟩ := text_spec x.Text h.text
 unfold m_piece_toneFault m_gleeref2_toneFault
 simp only [OutB_spec, inB_spec, h1, h2, h3, h4, Option.bind_some, Bool.not_not]
 have c1 : ∀ {τ : Type} (k : Bool → Option τ), (ifB (x.Note != (-1)) (some (Sum.inl (outB x.Note 0 127))) (some (Sum.inl false)) : Option (Bool ⊕ τ)).bind (fun z => Sum.fin z k) = k ((x.Note != (-1)) && outB x.Note 0 127) := by
  intro τ k
  cases (x.Note != (-1)) <;> rfl
 rw [c1, c1]
 cases hb1 : ((x.Note != (-1)) && outB x.Note 0 127) with
 | true => exact ⟨1, rfl, rfl, fun h => by cases h⟩
 | false =>
  have hnote : x.Note = -1 ∨ (0 ≤ x.Note ∧ x.Note ≤ 127) := by
   unfold outB at hb1
   simp only [Bool.and_eq_false_iff, bne_eq_false_iff_eq, Bool.or_eq_false_iff, decide_eq_false_iff_not] at hb1
   omega
  simp only [ifB_false]
  cases hn : decide (x.Long.Num < 1) with
  | true => exact ⟨3, rfl, rfl, fun h => by cases h⟩
  | false =>
   simp only [ifB_false]
   cases hd : decide (x.Long.Den < 1) with
   | true => exact ⟨3, rfl, rfl, fun h => by cases h⟩
   | false =>
    simp only [ifB_false, Bool.false_or]
    cases hdd : (d != 1) with
    | true => exact ⟨3, rfl, rfl, fun h => by cases h⟩
    | false =>
     simp only [Option.bind_some, fin_inl, Bool.not_false, Bool.not_true, ifB_false]
     have hnum : 1 ≤ x.Long.Num := by have := of_decide_eq_false hn; omega
     have hden : 1 ≤ x.Long.Den := by have := of_decide_eq_false hd; omega
     rw [remM_of (by omega)]
     simp only [Option.bind_some]
     cases hz : ((192 : Int).tmod x.Long.Den != 0) with
     | true => exact ⟨1, rfl, rfl, fun h => by cases h⟩
     | false =>
      have hz0 : (192 : Int).tmod x.Long.Den = 0 := by simpa using hz
      have hle : x.Long.Den ≤ 192 := by
       have h5 : (192 : Int) = x.Long.Den * (192 : Int).tdiv x.Long.Den := by have := Int.mul_tdiv_add_tmod 192 x.Long.Den; omega
       have h6 : 0 ≤ (192 : Int).tdiv x.Long.Den := Int.tdiv_nonneg (by omega) (by omega)
       have h7 : (192 : Int).tdiv x.Long.Den ≠ 0 := fun h => by rw [h] at h5; omega
       have h8 : x.Long.Den * 1 ≤ x.Long.Den * (192 : Int).tdiv x.Long.Den := Int.mul_le_mul_of_nonneg_left (by omega) (by omega)
       omega
      simp only [ifB_false, Option.bind_some, fin_inl]
      rw [w64_id (by omega)]
      cases hm : decide (x.Long.Num > 16 * x.Long.Den) with
      | true => exact ⟨1, rfl, rfl, fun h => by cases h⟩
      | false =>
       simp only [ifB_false]
       have good : t = true → TGood x := fun ht => ⟨hnote, hnum, hden, hz0, by have := of_decide_eq_false hm; omega, (h5 ht).1, (h5 ht).2⟩
       cases t with
       | false => exact ⟨3, rfl, rfl, fun h => by cases h⟩
       | true =>
        simp only [Bool.not_true, ifB_false]
        have c2 : ∀ (b1 b2 b3 : Bool), ∃ k : Int, (ifB b1 (ifB b2 (some (Sum.inl true)) (some (Sum.inl b3))) (some (Sum.inl false)) : Option (Bool ⊕ Int)).bind (fun k17 => Sum.fin k17 fun u15 => ifB u15 (some (16 : Int)) (some 0)) = some k := by
         intro b1 b2 b3
         cases b1 <;> cases b2 <;> cases b3 <;> exact ⟨_, rfl⟩
        obtain ⟨k, hk⟩ := c2 (x.Note == -1) x.Tied (!x.Text.toList == ByteArray.empty.toList)
        exact ⟨k, hk, hk, fun _ => good rfl⟩
end Go.G
namespace Go.G
open Go Go.J
set_option linter.unusedSimpArgs false
def uT (x : TTone) : Int := x.Long.Num * (192 : Int).tdiv x.Long.Den
def lB (x : TBar) : Int := x.Beats * (192 : Int).tdiv x.Unit
def sumU (t : List TTone) : Int := (t.map uT).sum
theorem units_spec {x : TTone} (h : TGood x) : m_piece_units x.Long = some (uT x) ∧ m_gleeref2_units x.Long = some (uT x) ∧ 1 ≤ uT x ∧ uT x ≤ 3072 := by
 obtain ⟨-, h1, h2, h3, h4⟩ := h
 have h5 : (192 : Int) = x.Long.Den * (192 : Int).tdiv x.Long.Den := by have := Int.mul_tdiv_add_tmod 192 x.Long.Den; omega
 have h6 : 0 ≤ (192 : Int).tdiv x.Long.Den := Int.tdiv_nonneg (by omega) (by omega)
 have h7 : (192 : Int).tdiv x.Long.Den ≠ 0 := fun h => by rw [h] at h5; omega
 have h8 : 1 * (192 : Int).tdiv x.Long.Den ≤ x.Long.Num * (192 : Int).tdiv x.Long.Den := Int.mul_le_mul_of_nonneg_right h1 h6
 have h9 : x.Long.Num * (192 : Int).tdiv x.Long.Den ≤ 16 * x.Long.Den * (192 : Int).tdiv x.Long.Den := Int.mul_le_mul_of_nonneg_right h4 h6
 rw [Int.mul_assoc, ← h5] at h9
 have h10 : 1 * (192 : Int).tdiv x.Long.Den ≤ x.Long.Den * (192 : Int).tdiv x.Long.Den := Int.mul_le_mul_of_nonneg_right h2 h6
 have b1 : 1 ≤ uT x := by unfold uT; omega
 have b2 : uT x ≤ 3072 := by unfold uT; omega
 have e : ∀ {r : Option Int}, r = ((quoM 192 x.Long.Den).bind fun z2 => some (w64 (x.Long.Num * z2))) → r = some (uT x) := by
  intro r hr
  rw [hr, quoM_of (by omega), Option.bind_some, w64_id (n := (192 : Int).tdiv x.Long.Den) (by omega)]
  show some (w64 (uT x)) = _
  rw [w64_id (by omega)]
 exact ⟨e rfl, e rfl, b1, b2⟩
theorem long_spec {x : TBar} (h : bad x = false) : m_piece_long x = some (lB x) ∧ m_gleeref2_barUnits x = some (lB x) ∧ 1 ≤ lB x ∧ lB x ≤ 3072 := by
 obtain ⟨h1, h2, h3, -⟩ := notbad x h
 unfold m_piece_long m_gleeref2_barUnits lB
 have key : ∀ u v : Int, x.Unit = u → (192 : Int) = u * v → 0 < u → 12 ≤ v → v ≤ 192 → (quoM 192 x.Unit).bind (fun z2 => some (w64 (x.Beats * z2))) = some (x.Beats * (192 : Int).tdiv x.Unit) ∧
   (quoM (w64 (x.Beats * 192)) x.Unit).bind (fun z2 => some z2) = some (x.Beats * (192 : Int).tdiv x.Unit) ∧ 1 ≤ x.Beats * (192 : Int).tdiv x.Unit ∧ x.Beats * (192 : Int).tdiv x.Unit ≤ 3072 := by
  intro u v hu huv hu0 hv hv2
  subst hu
  have e1 : (192 : Int).tdiv x.Unit = v := by rw [huv]; exact Int.mul_tdiv_cancel_left _ (by omega)
  have e2 : (x.Beats * 192).tdiv x.Unit = x.Beats * v := by rw [huv, ← Int.mul_assoc, Int.mul_comm x.Beats, Int.mul_assoc]; exact Int.mul_tdiv_cancel_left _ (by omega)
  have b1 : 1 * v ≤ x.Beats * v := Int.mul_le_mul_of_nonneg_right h1 (by omega)
  have b2 : x.Beats * v ≤ 16 * v := Int.mul_le_mul_of_nonneg_right h2 (by omega)
  rw [quoM_of (by omega), quoM_of (by omega), e1, w64_id (n := x.Beats * 192) (by omega), e2, Option.bind_some, Option.bind_some, w64_id (n := v) (by omega), w64_id (by omega)]
  exact ⟨rfl, rfl, by omega, by omega⟩
 rcases h3 with h3 | h3 | h3 | h3 | h3
 ·exact key 1 192 h3 rfl (by omega) (by omega) (by omega)
 ·exact key 2 96 h3 rfl (by omega) (by omega) (by omega)
 ·exact key 4 48 h3 rfl (by omega) (by omega) (by omega)
 ·exact key 8 24 h3 rfl (by omega) (by omega) (by omega)
 ·exact key 16 12 h3 rfl (by omega) (by omega) (by omega)
theorem fill_loop (bs : List TBar) (hb : ∀ x ∈ bs, bad x = false) (hl : bs.length ≤ 600) : ∀ (t : List TTone) (i bar : Nat) (left : Int), (∀ x ∈ t, TOk x) → bar ≤ bs.length → 0 ≤ left → left ≤ 3072 →
  (∃ k, k ≠ 0 ∧ rangeM (m_piece_checkTones_l1 bs) i t ((bar : Int), left) = some (.ret k) ∧ rangeM (m_gleeref2_fillFault_l1 bs) i t ((bar : Int) - 1, left) = some (.ret k)) ∨
  (∃ (bar' : Nat) (left' : Int), rangeM (m_piece_checkTones_l1 bs) i t ((bar : Int), left) = some (.brk ((bar' : Int), left')) ∧ rangeM (m_gleeref2_fillFault_l1 bs) i t ((bar : Int) - 1, left) = some (.brk ((bar' : Int) - 1, left')) ∧
   bar' ≤ bs.length ∧ 0 ≤ left' ∧ left' ≤ 3072 ∧ (∀ x ∈ t, TGood x) ∧ (left' = 0 → bar' = bs.length → ∃ g0 gs, t = g0 ++ List.flatten gs ∧ sumU g0 = left ∧ gs.map sumU = (bs.drop bar).map lB))
 | [], i, bar, left, _, h1, h2, h3 => .inr ⟨bar, left, rfl, rfl, h1, h2, h3, by simp, fun h h' => ⟨[], [], rfl, by simp [sumU, h], by rw [h']; simp⟩⟩
 | x :: t, i, bar, left, ht, h1, h2, h3 => by
  obtain ⟨k, hk1, hk2, hk3⟩ := toneFault_spec x (ht x (List.mem_cons_self ..))
  have ht' : ∀ y ∈ t, TOk y := fun y hy => ht y (List.mem_cons_of_mem _ hy)
  rw [rangeM_cons, rangeM_cons]
  by_cases hk : k = 0
  ·subst hk
   have hg := hk3 rfl
   obtain ⟨hu1, hu2, hu3, hu4⟩ := units_spec hg
   -- one round, from what is left
   have step : ∀ (L : Int) (nb : Nat), 0 ≤ L → L ≤ 3072 → nb ≤ bs.length →
     m_piece_checkTones_l1 bs i x ((bar : Int), left) = (if uT x > L then some (.ret 16) else some (.nxt ((nb : Int), L - uT x))) →
     m_gleeref2_fillFault_l1 bs i x ((bar : Int) - 1, left) = (if uT x > L then some (.ret 16) else some (.nxt ((nb : Int) - 1, L - uT x))) →
     (∀ g0 gs, t = g0 ++ List.flatten gs → sumU g0 = L - uT x → gs.map sumU = (bs.drop nb).map lB → ∃ g0 gs, x :: t = g0 ++ List.flatten gs ∧ sumU g0 = left ∧ gs.map sumU = (bs.drop bar).map lB) →
     (∃ k, k ≠ 0 ∧ ((m_piece_checkTones_l1 bs i x ((bar : Int), left)).bind fun f => f.run (fun s' => rangeM (m_piece_checkTones_l1 bs) (i + 1) t s') (fun s' => some (.brk s')) (fun v => some (.ret v))) = some (.ret k) ∧
      ((m_gleeref2_fillFault_l1 bs i x ((bar : Int) - 1, left)).bind fun f => f.run (fun s' => rangeM (m_gleeref2_fillFault_l1 bs) (i + 1) t s') (fun s' => some (.brk s')) (fun v => some (.ret v))) = some (.ret k)) ∨
     (∃ (bar' : Nat) (left' : Int), ((m_piece_checkTones_l1 bs i x ((bar : Int), left)).bind fun f => f.run (fun s' => rangeM (m_piece_checkTones_l1 bs) (i + 1) t s') (fun s' => some (.brk s')) (fun v => some (.ret v))) = some (.brk ((bar' : Int), left')) ∧
      ((m_gleeref2_fillFault_l1 bs i x ((bar : Int) - 1, left)).bind fun f => f.run (fun s' => rangeM (m_gleeref2_fillFault_l1 bs) (i + 1) t s') (fun s' => some (.brk s')) (fun v => some (.ret v))) = some (.brk ((bar' : Int) - 1, left')) ∧
      bar' ≤ bs.length ∧ 0 ≤ left' ∧ left' ≤ 3072 ∧ (∀ y ∈ x :: t, TGood y) ∧ (left' = 0 → bar' = bs.length → ∃ g0 gs, x :: t = g0 ++ List.flatten gs ∧ sumU g0 = left ∧ gs.map sumU = (bs.drop bar).map lB)) := by
    intro L nb hL0 hL1 hnb e1 e2 hseg
    rw [e1, e2]
    by_cases hlt : uT x > L
    ·rw [if_pos hlt, if_pos hlt]
     exact .inl ⟨16, by decide, rfl, rfl⟩
    ·rw [if_neg hlt, if_neg hlt]
     rcases fill_loop bs hb hl t (i + 1) nb (L - uT x) ht' hnb (by omega) (by omega) with ⟨k, k1, k2, k3⟩ | ⟨b', l', k1, k2, k3, k4, k5, k6, k7⟩
     ·exact .inl ⟨k, k1, k2, k3⟩
     ·refine .inr ⟨b', l', k1, k2, k3, k4, k5, fun y hy => ?_, fun h h' => ?_⟩
      ·rcases List.mem_cons.1 hy with rfl | hy
       ·exact hg
       ·exact k6 y hy
      ·obtain ⟨g0, gs, e3, e4, e5⟩ := k7 h h'
       exact hseg g0 gs e3 e4 e5
   by_cases hz : left = 0
   ·subst hz
    by_cases hlen : bar = bs.length
    ·left
     refine ⟨16, by decide, ?_, ?_⟩
     ·unfold m_piece_checkTones_l1
      have : ((bar : Int) == (bs.length : Int)) = true := by simp [hlen]
      simp only [hk1, Option.bind_some, bne_self_eq_false, ifB_false, beq_self_eq_true, ifB_true, this, fin_inr]; rfl
     ·unfold m_gleeref2_fillFault_l1
      have : (w64 ((bar : Int) - 1 + 1) == (bs.length : Int)) = true := by rw [w64_id (by omega)]; simp; omega
      simp only [hk2, Option.bind_some, bne_self_eq_false, ifB_false, beq_self_eq_true, ifB_true, this, fin_inr]; rfl
    ·have hlt : bar < bs.length := by omega
     have hx : bs[bar]? = some bs[bar] := List.getElem?_eq_getElem hlt
     obtain ⟨l1, l2, l3, l4⟩ := long_spec (hb _ (List.getElem_mem hlt))
     refine step (lB bs[bar]) (bar + 1) (by omega) l4 (by omega) ?_ ?_ ?_
     ·unfold m_piece_checkTones_l1
      have e : ((bar : Int) == (bs.length : Int)) = false := by simp; omega
      simp only [hk1, Option.bind_some, bne_self_eq_false, ifB_false, beq_self_eq_true, ifB_true, e, getI_of (n := bar) rfl hx, l1, fin_inl, hu1]
      rw [w64_id (by omega), ifB_ite]
      split
      ·rfl
      ·rw [w64_id (by omega)]; rfl
     ·unfold m_gleeref2_fillFault_l1
      have e0 : w64 ((bar : Int) - 1 + 1) = (bar : Int) := by rw [w64_id (by omega)]; omega
      have e : ((bar : Int) == (bs.length : Int)) = false := by simp; omega
      simp only [hk2, Option.bind_some, bne_self_eq_false, ifB_false, beq_self_eq_true, ifB_true, e0, e, getI_of (n := bar) rfl hx, l2, fin_inl, hu2]
      rw [w64_id (by omega), ifB_ite]
      by_cases hq : uT x > lB bs[bar]
      ·rw [if_pos hq, if_pos (by omega)]
      ·rw [if_neg hq, if_neg (by omega)]
       have : ((bar + 1 : Nat) : Int) - 1 = bar := by omega
       rw [this]
     ·intro g0 gs e1 e2 e3
      refine ⟨[], (x :: g0) :: gs, by simp [e1], rfl, ?_⟩
      rw [List.drop_eq_getElem_cons hlt, List.map_cons, List.map_cons, e3]
      congr 1
      show uT x + sumU g0 = _
      omega
   ·have hzb : (left == 0) = false := by simpa using hz
    refine step left bar h2 h3 h1 ?_ ?_ ?_
    ·unfold m_piece_checkTones_l1
     simp only [hk1, Option.bind_some, bne_self_eq_false, ifB_false, hzb, fin_inl, hu1]
     rw [ifB_ite]
     split
     ·rfl
     ·rw [w64_id (by omega)]
    ·unfold m_gleeref2_fillFault_l1
     simp only [hk2, Option.bind_some, bne_self_eq_false, ifB_false, hzb, fin_inl, hu2]
     rw [w64_id (by omega), ifB_ite]
     by_cases hq : uT x > left
     ·rw [if_pos hq, if_pos (by omega)]
     ·rw [if_neg hq, if_neg (by omega)]
    ·intro g0 gs e1 e2 e3
     refine ⟨x :: g0, gs, by simp [e1], ?_, e3⟩
     show uT x + sumU g0 = _
     omega
  ·left
   have hb' : (k != 0) = true := by simpa using hk
   refine ⟨k, hk, ?_, ?_⟩
   ·unfold m_piece_checkTones_l1
    simp [hk1, hb']
   ·unfold m_gleeref2_fillFault_l1
    simp [hk2, hb']
def carryB (x y : TTone) : Bool := (x.Note == y.Note) && (y.Text.toList == ByteArray.empty.toList)
theorem carries_spec (x y : TTone) : m_piece_carries x y = some (carryB x y) ∧ m_gleeref2_tiesTo x y = some (carryB x y) := by
 unfold m_piece_carries m_gleeref2_tiesTo carryB
 constructor
 ·rw [show (y.Note == x.Note) = (x.Note == y.Note) from Bool.beq_comm]
  cases (x.Note == y.Note) <;> rfl
 ·cases (x.Note == y.Note) <;> rfl
def badT (t : List TTone) (last : Bool) (i : Nat) (x : TTone) : Bool := x.Tied && (match t[i + 1]? with
 | none => !last
 | some y => !carryB x y)
theorem tie_step (t : List TTone) (last : Bool) (hl : t.length ≤ 2000) (i : Nat) (x : TTone) (hx : t[i]? = some x) :
  m_piece_checkTones_l2 t last i x () = some (bif badT t last i x then .ret 16 else .nxt ()) ∧ m_gleeref2_fillFault_l2 t last i x () = some (bif badT t last i x then .ret 16 else .nxt ()) := by
 have hi : i < t.length := (List.getElem?_eq_some_iff.1 hx).1
 unfold m_piece_checkTones_l2 m_gleeref2_fillFault_l2 badT
 cases x.Tied with
 | false => exact ⟨rfl, rfl⟩
 | true =>
  rw [w64_id (n := (t.length : Int) - 1) (by omega), w64_id (n := (i : Int) + 1) (by omega)]
  by_cases he : i + 1 = t.length
  ·have e1 : ((i : Int) == (t.length : Int) - 1) = true := by simp; omega
   have e2 : decide ((i : Int) < (t.length : Int) - 1) = false := decide_eq_false (by omega)
   have e3 : t[i + 1]? = none := List.getElem?_eq_none (by omega)
   simp only [e1, e2, e3, ifB_true, ifB_false, Bool.not_true]
   cases last <;> simp
  ·have e1 : ((i : Int) == (t.length : Int) - 1) = false := by simp; omega
   have e2 : decide ((i : Int) < (t.length : Int) - 1) = true := decide_eq_true (by omega)
   have e3 : t[i + 1]? = some t[i + 1] := List.getElem?_eq_getElem (by omega)
   have e4 : min ((i : Int) + 1) ((t.length : Int) - 1) = ((i + 1 : Nat) : Int) := by omega
   obtain ⟨c1, c2⟩ := carries_spec x t[i + 1]
   have e5 : getI t ((i + 1 : Nat) : Int) = some t[i + 1] := getI_of (n := i + 1) rfl e3
   have e6 : getI t ((i : Int) + 1) = some t[i + 1] := getI_of (n := i + 1) (by omega) e3
   simp only [e1, e2, e3, e4, e5, e6, ifB_true, ifB_false, Bool.not_false, Option.bind_some, c1, c2]
   cases carryB x t[i + 1] <;> exact ⟨rfl, rfl⟩
theorem tie_loop (t : List TTone) (last : Bool) (hl : t.length ≤ 2000) : ∀ (ys : List TTone) (i : Nat), t.drop i = ys →
  (rangeM (m_piece_checkTones_l2 t last) i ys () = some (.ret 16) ∧ rangeM (m_gleeref2_fillFault_l2 t last) i ys () = some (.ret 16)) ∨
  (rangeM (m_piece_checkTones_l2 t last) i ys () = some (.brk ()) ∧ rangeM (m_gleeref2_fillFault_l2 t last) i ys () = some (.brk ()) ∧ ∀ j x, i ≤ j → t[j]? = some x → badT t last j x = false)
 | [], i, hd => .inr ⟨rfl, rfl, fun j x hj hx => by
   have := (List.getElem?_eq_some_iff.1 hx).1
   have := congrArg List.length hd
   simp at this
   omega⟩
 | x :: ys, i, hd => by
  obtain ⟨hx, hd'⟩ := drop_cons hd
  obtain ⟨s1, s2⟩ := tie_step t last hl i x hx
  rw [rangeM_cons, rangeM_cons, s1, s2]
  cases hb : badT t last i x with
  | true => exact .inl ⟨rfl, rfl⟩
  | false =>
   rcases tie_loop t last hl ys (i + 1) hd' with ⟨h1, h2⟩ | ⟨h1, h2, h3⟩
   ·exact .inl ⟨h1, h2⟩
   ·refine .inr ⟨h1, h2, fun j y hj hy => ?_⟩
    by_cases e : i = j
    ·subst e
     rw [hx] at hy
     cases hy
     exact hb
    ·exact h3 j y (by omega) hy
structure Fills (bs : List TBar) (t : List TTone) (last : Bool) : Prop where
 len : t.length ≤ 2000
 good : ∀ x ∈ t, TGood x
 seg : ∃ gs, t = List.flatten gs ∧ gs.map sumU = bs.map lB
 tie : ∀ j x, t[j]? = some x → badT t last j x = false
theorem fill_spec (bs : List TBar) (hb : ∀ x ∈ bs, bad x = false) (hl : bs.length ≤ 600) (t : List TTone) (last : Bool) (ht : ∀ x ∈ t, TOk x) (hlt : t.length ≤ 1000000) :
  ∃ k, m_piece_checkTones bs t last = some k ∧ m_gleeref2_fillFault bs t last = some k ∧ (k = 0 → Fills bs t last) := by
 unfold m_piece_checkTones m_gleeref2_fillFault
 by_cases h2 : (t.length : Int) > 2000
 ·exact ⟨2, by simp [h2], by simp [h2], fun h => by cases h⟩
 ·simp only [decide_eq_false h2, ifB_false]
  rcases fill_loop bs hb hl t 0 0 0 ht (Nat.zero_le _) (by omega) (by omega) with ⟨k, k1, k2, k3⟩ | ⟨b', l', k2, k3, k4, k5, k5', k6, k7⟩
  ·exact ⟨k, by rw [show ((0 : Int), (0 : Int)) = (((0 : Nat) : Int), (0 : Int)) from rfl, k2]; rfl, by rw [show ((-1 : Int), (0 : Int)) = (((0 : Nat) : Int) - 1, (0 : Int)) from rfl, k3]; rfl, fun h => (k1 h).elim⟩
  ·rw [show ((0 : Int), (0 : Int)) = (((0 : Nat) : Int), (0 : Int)) from rfl, show ((-1 : Int), (0 : Int)) = (((0 : Nat) : Int) - 1, (0 : Int)) from rfl, k2, k3]
   simp only [Option.bind_some, fin_brk]
   have e1 : (ifB (decide (l' > 0)) (some (Sum.inl true)) (some (Sum.inl (decide ((b' : Int) < (bs.length : Int))))) : Option (Bool ⊕ Int)) = some (.inl (!(l' == 0 && b' == bs.length))) := by
    by_cases h : l' > 0
    ·have : (l' == 0) = false := by simp; omega
     simp [h, this]
    ·have h0 : l' = 0 := by omega
     by_cases hb' : b' = bs.length
     ·simp [h0, hb']
     ·have : (b' : Int) < (bs.length : Int) := by omega
      simp [h0, hb', this]
   have e2 : (ifB (l' != 0) (some (Sum.inl true)) (some (Sum.inl ((b' : Int) - 1 != w64 ((bs.length : Int) - 1)))) : Option (Bool ⊕ Int)) = some (.inl (!(l' == 0 && b' == bs.length))) := by
    rw [w64_id (by omega)]
    by_cases h : l' = 0
    ·subst h
     by_cases hb' : b' = bs.length
     ·simp [hb']
     ·have : ((b' : Int) - 1 != (bs.length : Int) - 1) = true := by rw [bne_iff_ne]; omega
      simp [hb', this]
    ·have h5 : (l' != 0) = true := by simpa using h
     have h6 : (l' == 0) = false := by simpa using h
     rw [h5, h6]; rfl
   rw [e1, e2]
   simp only [Option.bind_some, fin_inl]
   by_cases hf : l' = 0 ∧ b' = bs.length
   ·obtain ⟨h0, hb'⟩ := hf
    obtain ⟨g0, gs, e3, e4, e5⟩ := k7 h0 hb'
    simp only [h0, hb', beq_self_eq_true, Bool.and_self, Bool.not_true, ifB_false]
    rcases tie_loop t last (by omega) t 0 rfl with ⟨q1, q2⟩ | ⟨q1, q2, q3⟩
    ·exact ⟨16, by rw [q1]; rfl, by rw [q2]; rfl, fun h => by cases h⟩
    ·refine ⟨0, by rw [q1]; rfl, by rw [q2]; rfl, fun _ => ⟨by omega, k6, ?_, fun j x hx => q3 j x (Nat.zero_le _) hx⟩⟩
     have hg0 : g0 = [] := by
      cases g0 with
      | nil => rfl
      | cons y ys =>
       have hgd := k6 y (by rw [e3]; simp)
       have hu := (units_spec hgd).2.2.1
       have hs : 0 ≤ sumU ys := by
        have : ∀ z ∈ ys, TGood z := fun z hz => k6 z (by rw [e3]; simp [hz])
        clear e3 e4
        induction ys with
        | nil => simp [sumU]
        | cons z zs ih =>
         have h1 := (units_spec (this z (List.mem_cons_self ..))).2.2.1
         have h2 := ih (fun q hq => this q (List.mem_cons_of_mem _ hq))
         show 0 ≤ uT z + sumU zs
         omega
       have : uT y + sumU ys = 0 := e4
       omega
     subst hg0
     exact ⟨gs, by simpa using e3, by simpa using e5⟩
   ·have : (l' == 0 && b' == bs.length) = false := by
     rw [Bool.and_eq_false_iff]
     by_cases h0 : l' = 0
     ·right; simp; exact fun h => hf ⟨h0, h⟩
     ·left; simpa using h0
    rw [this]
    exact ⟨3, rfl, rfl, fun h => by cases h⟩
end Go.G
namespace Go.G
open Go Go.J
set_option linter.unusedSimpArgs false
theorem sumU_nonneg {t : List TTone} (h : ∀ x ∈ t, TGood x) : 0 ≤ sumU t := by
 induction t with
 | nil => simp [sumU]
 | cons x t ih =>
  have h1 := (units_spec (h x (List.mem_cons_self ..))).2.2.1
  have h2 := ih fun y hy => h y (List.mem_cons_of_mem _ hy)
  show 0 ≤ uT x + sumU t
  omega
theorem inBars_inner (T : List TTone) (out : List (List TTone)) (rest : List TTone) (hT : T.length ≤ 2000) : ∀ (suf pre : List TTone), T = pre ++ suf ++ rest → (∀ x ∈ suf, TGood x) → sumU suf ≤ 4000 → loopM (m_piece_inBars_l2 (T, out)) ((pre.length : Int), sumU suf) = some (.brk (((pre.length + suf.length : Nat) : Int), 0))
 | [], pre, h, _, _ => by
  have e : m_piece_inBars_l2 (T, out) ((pre.length : Int), sumU []) = some (.brk ((pre.length : Int), 0)) := rfl
  rw [loopM_step e]; rfl
 | x :: suf, pre, h, hg, hs => by
  obtain ⟨u1, u2, u3, u4⟩ := units_spec (hg x (List.mem_cons_self ..))
  have hnn := sumU_nonneg (fun y hy => hg y (List.mem_cons_of_mem _ hy) : ∀ y ∈ suf, TGood y)
  have hx : T[pre.length]? = some x := by rw [h]; simp
  have hlt : pre.length < T.length := (List.getElem?_eq_some_iff.1 hx).1
  have hsum : sumU (x :: suf) = uT x + sumU suf := rfl
  have e : m_piece_inBars_l2 (T, out) ((pre.length : Int), sumU (x :: suf)) = some (.nxt (((pre ++ [x]).length : Int), sumU suf)) := by
   unfold m_piece_inBars_l2
   rw [hsum, decide_eq_true (by omega), ifB_true]
   simp only [getI_of (n := pre.length) rfl hx, Option.bind_some, u1]
   rw [w64_id (by omega), w64_id (by omega)]
   have e1 : (pre.length : Int) + 1 = ((pre ++ [x]).length : Int) := by simp
   have e2 : uT x + sumU suf - uT x = sumU suf := by omega
   rw [e1, e2]
  have ih := inBars_inner T out rest hT suf (pre ++ [x]) (by rw [h]; simp) (fun y hy => hg y (List.mem_cons_of_mem _ hy)) (by omega)
  rw [loopM_step e, run_nxt, ih]
  congr 3
  simp; omega
theorem inBars_spec : ∀ (bs : List TBar) (gs out : List (List TTone)) (i : Nat), (∀ x ∈ bs, bad x = false) → gs.map sumU = bs.map lB → (∀ x ∈ List.flatten gs, TGood x) → (List.flatten gs).length ≤ 2000 → out.length + bs.length ≤ 1000 →
  rangeM m_piece_inBars_l1 i bs (List.flatten gs, out) = some (.brk ([], out ++ gs))
 | [], gs, out, i, _, h, _, _, _ => by
  obtain rfl : gs = [] := by simpa using h
  simp
 | b :: bs, gs, out, i, hb, h, hg, hl, ho => by
  obtain ⟨l1, l2, l3, l4⟩ := long_spec (hb b (List.mem_cons_self ..))
  cases gs with
  | nil => cases h
  | cons g gs =>
   simp only [List.map_cons, List.cons.injEq] at h
   obtain ⟨h1, h2⟩ := h
   rw [List.flatten_cons] at hg hl ⊢
   simp only [List.length_append] at hl
   simp only [List.length_cons] at ho
   have hin := inBars_inner (g ++ List.flatten gs) out (List.flatten gs) (by rw [List.length_append]; omega) g [] (by simp) (fun x hx => hg x (List.mem_append_left _ hx)) (by omega)
   rw [h1] at hin
   simp only [List.length_nil, Nat.zero_add] at hin
   have e : m_piece_inBars_l1 i b (g ++ List.flatten gs, out) = some (.nxt (List.flatten gs, out ++ [g])) := by
    unfold m_piece_inBars_l1 m_slices_Clone_api_Tone_api_Tone
    simp only [l1, Option.bind_some]
    rw [show ((0 : Int), lB b) = (((0 : Nat) : Int), lB b) from rfl, hin]
    simp only [Option.bind_some, fin_brk]
    rw [sliceI_of (lo := 0) (hi := (g.length : Int)) (a := 0) (b := g.length) rfl rfl (Nat.zero_le _) (by simp), Option.bind_some]
    have e1 : ((g ++ List.flatten gs).drop 0).take (g.length - 0) = g := by simp
    rw [e1, appM_of (by simp; omega) (by omega)]
    simp only [Option.bind_some, List.nil_append]
    rw [appM_of (by simp; omega) (by omega), Option.bind_some, sliceI_of (a := g.length) (b := (g ++ List.flatten gs).length) rfl rfl (by simp) (Nat.le_refl _), Option.bind_some]
    have e2 : ((g ++ List.flatten gs).drop g.length).take ((g ++ List.flatten gs).length - g.length) = List.flatten gs := by rw [List.drop_left, List.length_append, Nat.add_sub_cancel_left, List.take_length]
    rw [e2]
   rw [rangeM_cons, e, Option.bind_some, run_nxt, inBars_spec bs gs (out ++ [g]) (i + 1) (fun x hx => hb x (List.mem_cons_of_mem _ hx)) h2 (fun x hx => hg x (List.mem_append_right _ hx)) (by omega) (by simp; omega)]
   simp
theorem inBarsOf_inner (T : List TTone) (out : List (List TTone)) (rest : List TTone) (hT : T.length ≤ 2000) : ∀ (suf pre : List TTone), T = pre ++ suf ++ rest → (∀ x ∈ suf, TGood x) → sumU suf ≤ 4000 → loopM (m_gleeref2_InBarsOf_l2 (T, out)) ((pre.length : Int), sumU suf) = some (.brk (((pre.length + suf.length : Nat) : Int), 0))
 | [], pre, h, _, _ => by
  have e : m_gleeref2_InBarsOf_l2 (T, out) ((pre.length : Int), sumU []) = some (.brk ((pre.length : Int), 0)) := rfl
  rw [loopM_step e]; rfl
 | x :: suf, pre, h, hg, hs => by
  obtain ⟨u1, u2, u3, u4⟩ := units_spec (hg x (List.mem_cons_self ..))
  have hnn := sumU_nonneg (fun y hy => hg y (List.mem_cons_of_mem _ hy) : ∀ y ∈ suf, TGood y)
  have hx : T[pre.length]? = some x := by rw [h]; simp
  have hlt : pre.length < T.length := (List.getElem?_eq_some_iff.1 hx).1
  have hsum : sumU (x :: suf) = uT x + sumU suf := rfl
  have e : m_gleeref2_InBarsOf_l2 (T, out) ((pre.length : Int), sumU (x :: suf)) = some (.nxt (((pre ++ [x]).length : Int), sumU suf)) := by
   unfold m_gleeref2_InBarsOf_l2
   rw [hsum, decide_eq_true (by omega), ifB_true]
   simp only [getI_of (n := pre.length) rfl hx, Option.bind_some, u2]
   rw [w64_id (by omega), w64_id (by omega)]
   have e1 : (pre.length : Int) + 1 = ((pre ++ [x]).length : Int) := by simp
   have e2 : uT x + sumU suf - uT x = sumU suf := by omega
   rw [e1, e2]
  have ih := inBarsOf_inner T out rest hT suf (pre ++ [x]) (by rw [h]; simp) (fun y hy => hg y (List.mem_cons_of_mem _ hy)) (by omega)
  rw [loopM_step e, run_nxt, ih]
  congr 3
  simp; omega
theorem inBarsOf_spec : ∀ (bs : List TBar) (gs out : List (List TTone)) (i : Nat), (∀ x ∈ bs, bad x = false) → gs.map sumU = bs.map lB → (∀ x ∈ List.flatten gs, TGood x) → (List.flatten gs).length ≤ 2000 → out.length + bs.length ≤ 1000 →
  rangeM m_gleeref2_InBarsOf_l1 i bs (List.flatten gs, out) = some (.brk ([], out ++ gs))
 | [], gs, out, i, _, h, _, _, _ => by
  obtain rfl : gs = [] := by simpa using h
  simp
 | b :: bs, gs, out, i, hb, h, hg, hl, ho => by
  obtain ⟨l1, l2, l3, l4⟩ := long_spec (hb b (List.mem_cons_self ..))
  cases gs with
  | nil => cases h
  | cons g gs =>
   simp only [List.map_cons, List.cons.injEq] at h
   obtain ⟨h1, h2⟩ := h
   rw [List.flatten_cons] at hg hl ⊢
   simp only [List.length_append] at hl
   simp only [List.length_cons] at ho
   have hin := inBarsOf_inner (g ++ List.flatten gs) out (List.flatten gs) (by rw [List.length_append]; omega) g [] (by simp) (fun x hx => hg x (List.mem_append_left _ hx)) (by omega)
   rw [h1] at hin
   simp only [List.length_nil, Nat.zero_add] at hin
   have e : m_gleeref2_InBarsOf_l1 i b (g ++ List.flatten gs, out) = some (.nxt (List.flatten gs, out ++ [g])) := by
    unfold m_gleeref2_InBarsOf_l1 m_slices_Clone_api_Tone_api_Tone
    simp only [l2, Option.bind_some]
    rw [show ((0 : Int), lB b) = (((0 : Nat) : Int), lB b) from rfl, hin]
    simp only [Option.bind_some, fin_brk]
    rw [sliceI_of (lo := 0) (hi := (g.length : Int)) (a := 0) (b := g.length) rfl rfl (Nat.zero_le _) (by simp), Option.bind_some]
    have e1 : ((g ++ List.flatten gs).drop 0).take (g.length - 0) = g := by simp
    rw [e1, appM_of (by simp; omega) (by omega)]
    simp only [Option.bind_some, List.nil_append]
    rw [appM_of (by simp; omega) (by omega), Option.bind_some, sliceI_of (a := g.length) (b := (g ++ List.flatten gs).length) rfl rfl (by simp) (Nat.le_refl _), Option.bind_some]
    have e2 : ((g ++ List.flatten gs).drop g.length).take ((g ++ List.flatten gs).length - g.length) = List.flatten gs := by rw [List.drop_left, List.length_append, Nat.add_sub_cancel_left, List.take_length]
    rw [e2]
   rw [rangeM_cons, e, Option.bind_some, run_nxt, inBarsOf_spec bs gs (out ++ [g]) (i + 1) (fun x hx => hb x (List.mem_cons_of_mem _ hx)) h2 (fun x hx => hg x (List.mem_append_right _ hx)) (by omega) (by simp; omega)]
   simp
theorem inBars_eq {bs : List TBar} {t : List TTone} {last : Bool} (hb : ∀ x ∈ bs, bad x = false) (hl : bs.length ≤ 600) (h : Fills bs t last) :
  ∃ gs, m_piece_inBars bs t = some gs ∧ m_gleeref2_InBarsOf bs t = some gs ∧ t = List.flatten gs ∧ gs.map sumU = bs.map lB := by
 obtain ⟨gs, h1, h2⟩ := h.seg
 refine ⟨gs, ?_, ?_, h1, h2⟩
 ·unfold m_piece_inBars
  have h3 := h.good
  have h4 := h.len
  rw [h1] at h3 h4 ⊢
  rw [inBars_spec bs gs [] 0 hb h2 h3 h4 (by simp; omega)]; simp
 ·unfold m_gleeref2_InBarsOf
  have h3 := h.good
  have h4 := h.len
  rw [h1] at h3 h4 ⊢
  rw [inBarsOf_spec bs gs [] 0 hb h2 h3 h4 (by simp; omega)]; simp
end Go.G
namespace Go.G
open Go Go.J
set_option linter.unusedSimpArgs false
def uF (f : TFraction) : Int := f.Num * (192 : Int).tdiv f.Den
structure UOk (f : TFraction) (m : Int) : Prop where
 p : m_piece_units f = some (uF f)
 q : m_gleeref2_units f = some (uF f)
 pos : 1 ≤ uF f
 le : uF f ≤ m
def un (x : TTone) : TTone := ⟨x.Note, x.Long, x.Text, false⟩
def glue (y : TTone) : List TTone → List TTone
 | [] => [y]
 | z :: r => ⟨y.Note, lowF (uF y.Long + uF z.Long).toNat 192, y.Text, y.Tied⟩ :: r
def Jn : List TTone → List TTone
 | [] => []
 | x :: t => bif x.Tied then glue (un x) (Jn t) else un x :: Jn t
def Ch (t : List TTone) : Prop := ∀ pre x suf, t = pre ++ x :: suf → x.Tied = true → suf ≠ []
theorem Ch.tail {x : TTone} {t : List TTone} (h : Ch (x :: t)) : Ch t := fun pre y suf e => h (x :: pre) y suf (by rw [e]; rfl)
end Go.G
namespace Go.G
open Go Go.J
set_option linter.unusedSimpArgs false
theorem SomeT_spec (L : List Int) {p : Int} (xs : List ByteArray) (hp : 0 ≤ p) (hp' : p ≤ 1000000000) (hx : xs.length ≠ 0) (hx' : (xs.length : Int) ≤ 4611686018427387904) :
  ∃ v, m_gleemake_Stream_Some L p xs = some (v, p + 1) ∧ v ∈ xs := by
 obtain ⟨r, h, h2, h3⟩ := Next_spec L (n := xs.length) hp hp' hx'
 have h3 := h3 (by omega)
 have h4 : r.toNat < xs.length := by omega
 refine ⟨xs[r.toNat], ?_, List.getElem_mem h4⟩
 unfold m_gleemake_Stream_Some
 rw [h]
 show (getI xs r).bind _ = _
 rw [getI_of (n := r.toNat) (by omega) (List.getElem?_eq_getElem h4)]; rfl
theorem EqualT_refl (xs : List TTone) : m_slices_Equal_api_Tone_api_Tone xs xs = some true := by
 unfold m_slices_Equal_api_Tone_api_Tone
 have h : ((xs.length : Int) != (xs.length : Int)) = false := by simp
 rw [h, ifB_false]
 obtain ⟨s', h1, -⟩ := rangeM_invx (m_slices_Equal_api_Tone_api_Tone_l1 xs) xs (fun _ _ => True) (fun i x s hx _ => ⟨s, by
  unfold m_slices_Equal_api_Tone_api_Tone_l1
  rw [getI_of rfl hx, Option.bind_some]
  simp, trivial⟩) () trivial
 rw [h1]; rfl
end Go.G
