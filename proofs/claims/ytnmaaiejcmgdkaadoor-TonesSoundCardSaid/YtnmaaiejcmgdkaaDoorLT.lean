/- LT: the law of the played bars holds of its model at every seed, in plain Lean. No program in sight. -/
import Derived.Test.YtnmaaiejcmgdkaaDoorLTE
namespace Go.G
open Go Go.J
theorem Equal_refl (xs : List Int) : m_slices_Equal_int_int xs xs = some true := by
  unfold m_slices_Equal_int_int
  have h : ((xs.length : Int) != (xs.length : Int)) = false := by simp
  rw [h, ifB_false]
  obtain ⟨s', h1, -⟩ := rangeM_invx (m_slices_Equal_int_int_l1 xs) xs (fun _ _ => True) (fun i x s hx _ => ⟨s, by
    unfold m_slices_Equal_int_int_l1
    rw [getI_of rfl hx, Option.bind_some]
    simp, trivial⟩) () trivial
  rw [h1]; rfl
def lowF (a b : Nat) : TFraction := ⟨(a : Int) / (Nat.gcd a b : Int), (b : Int) / (Nat.gcd a b : Int)⟩
theorem gcdLoop1 (a b : Nat) : loopM m_kit_Lowest_l1 ((a : Int), (b : Int)) = some (.brk ((Nat.gcd a b : Int), 0)) := by
  obtain ⟨f, hf, rfl⟩ := loopM_post m_kit_Lowest_l1 (fun s => ∃ x y : Nat, s = ((x : Int), (y : Int)) ∧ Nat.gcd x y = Nat.gcd a b) (fun s => s.2.toNat) (fun f => f = .brk ((Nat.gcd a b : Int), 0)) (by
    rintro s ⟨x, y, rfl, hg⟩
    unfold m_kit_Lowest_l1
    by_cases hy : y = 0
    · subst hy
      rw [Nat.gcd_zero_right] at hg
      exact .inr (.inl ⟨_, rfl, by rw [hg]; rfl⟩)
    · have h1 : ((y : Int) != 0) = true := by simpa using hy
      have h2 : ((x : Int)).tmod (y : Int) = ((x % y : Nat) : Int) := rfl
      refine .inl ⟨((y : Int), ((x % y : Nat) : Int)), ?_, ⟨y, x % y, rfl, ?_⟩, ?_⟩
      · simp only
        rw [h1, ifB_true, remM_of (by omega), Option.bind_some, h2]
      · rw [← hg, Nat.gcd_comm x y, Nat.gcd_comm y (x % y), ← Nat.gcd_rec]
      · have := Nat.mod_lt x (Nat.pos_of_ne_zero hy)
        simp only; omega) _ ⟨a, b, rfl, rfl⟩
  exact hf
theorem gcdLoop2 (a b : Nat) : loopM m_gleeref2_divisor_l1 ((a : Int), (b : Int)) = some (.brk ((Nat.gcd a b : Int), 0)) := by
  obtain ⟨f, hf, rfl⟩ := loopM_post m_gleeref2_divisor_l1 (fun s => ∃ x y : Nat, s = ((x : Int), (y : Int)) ∧ Nat.gcd x y = Nat.gcd a b) (fun s => s.2.toNat) (fun f => f = .brk ((Nat.gcd a b : Int), 0)) (by
    rintro s ⟨x, y, rfl, hg⟩
    unfold m_gleeref2_divisor_l1
    by_cases hy : y = 0
    · subst hy
      rw [Nat.gcd_zero_right] at hg
      exact .inr (.inl ⟨_, rfl, by rw [hg]; rfl⟩)
    · have h1 : ((y : Int) != 0) = true := by simpa using hy
      have h2 : ((x : Int)).tmod (y : Int) = ((x % y : Nat) : Int) := rfl
      refine .inl ⟨((y : Int), ((x % y : Nat) : Int)), ?_, ⟨y, x % y, rfl, ?_⟩, ?_⟩
      · simp only
        rw [h1, ifB_true, remM_of (by omega), Option.bind_some, h2]
      · rw [← hg, Nat.gcd_comm x y, Nat.gcd_comm y (x % y), ← Nat.gcd_rec]
      · have := Nat.mod_lt x (Nat.pos_of_ne_zero hy)
        simp only; omega) _ ⟨a, b, rfl, rfl⟩
  exact hf
theorem quo_gcd (a b c : Nat) (hb : b ≠ 0) (_ : b ≤ 1000000000000) (hc : c ≤ 1000000000000) : quoM (c : Int) (Nat.gcd a b : Int) = some ((c : Int) / (Nat.gcd a b : Int)) := by
  have hg : 0 < Nat.gcd a b := Nat.gcd_pos_of_pos_right a (Nat.pos_of_ne_zero hb)
  rw [quoM_of (by omega)]
  have e : ((c : Int)).tdiv (Nat.gcd a b : Int) = ((c / Nat.gcd a b : Nat) : Int) := rfl
  have := Nat.div_le_self c (Nat.gcd a b)
  have h0 : (0 : Int) ≤ ((c / Nat.gcd a b : Nat) : Int) := Int.natCast_nonneg _
  rw [e, w64_id (by omega)]
  rfl
theorem kitLowest_spec (a b : Nat) (hb : b ≠ 0) (hb' : b ≤ 1000000000000) (ha : a ≤ 1000000000000) : m_kit_Lowest (a : Int) (b : Int) = some (lowF a b) := by
  unfold m_kit_Lowest
  rw [gcdLoop1, Option.bind_some, fin_brk]
  simp only
  rw [quo_gcd a b a hb hb' ha, Option.bind_some, quo_gcd a b b hb hb' hb']
  rfl
theorem refLowest_spec (a b : Nat) (hb : b ≠ 0) (hb' : b ≤ 1000000000000) (ha : a ≤ 1000000000000) : m_gleeref2_Lowest (a : Int) (b : Int) = some (lowF a b) := by
  have hg : 0 < Nat.gcd a b := Nat.gcd_pos_of_pos_right a (Nat.pos_of_ne_zero hb)
  have hg' : Nat.gcd a b ≤ b := Nat.gcd_le_right a (Nat.pos_of_ne_zero hb)
  have hd : m_gleeref2_divisor (a : Int) (b : Int) = some (Nat.gcd a b : Int) := by
    unfold m_gleeref2_divisor
    rw [gcdLoop2, Option.bind_some, fin_brk]
    simp only
    rw [w64_id (by omega)]
    congr 1
    omega
  unfold m_gleeref2_Lowest
  rw [hd, Option.bind_some, quo_gcd a b a hb hb' ha, Option.bind_some, quo_gcd a b b hb hb' hb']
  rfl
theorem Lowest_eq {n : Int} (h0 : 0 ≤ n) (h1 : n ≤ 1000000000000) : ∃ F, m_piece_fraction n = some F ∧ m_gleeref2_Lowest n 192 = some F := by
  obtain ⟨a, rfl⟩ := Int.eq_ofNat_of_zero_le h0
  refine ⟨lowF a 192, ?_, refLowest_spec a 192 (by omega) (by omega) (by omega)⟩
  unfold m_piece_fraction
  have := kitLowest_spec a 192 (by omega) (by omega) (by omega)
  show (m_kit_Lowest (a : Int) ((192 : Nat) : Int)).bind _ = _
  rw [this]; rfl
theorem long_eq (x : TBar) (h : bad x = false) : ∃ v, m_piece_long x = some v ∧ m_gleeref2_barUnits x = some v ∧ 0 ≤ v ∧ v ≤ 3072 := by
  obtain ⟨h1, h2, h3, -⟩ := notbad x h
  unfold m_piece_long m_gleeref2_barUnits
  have hw : w64 (x.Beats * 192) = x.Beats * 192 := w64_id (by omega)
  rw [hw]
  have hq : ∀ u v : Int, u * v = 192 → 1 ≤ u → 1 ≤ v → v ≤ 192 → x.Unit = u → ∃ w, ((quoM 192 x.Unit).bind fun z2 => some (w64 (x.Beats * z2))) = some w ∧ ((quoM (x.Beats * 192) x.Unit).bind fun z2 => some z2) = some w ∧ 0 ≤ w ∧ w ≤ 3072 := by
    intro u v huv hu hv hv' hx
    have b1 : 0 ≤ x.Beats * v := Int.mul_nonneg (by omega) (by omega)
    have b2 : x.Beats * v ≤ 16 * 192 := Int.mul_le_mul h2 hv' (by omega) (by omega)
    refine ⟨x.Beats * v, ?_, ?_, b1, by omega⟩
    · rw [hx, quoM_of (by omega), ← huv, Int.mul_tdiv_cancel_left _ (by omega), Option.bind_some, w64_id (n := v) (by omega), w64_id (by omega)]
    · rw [hx, quoM_of (by omega), ← huv, ← Int.mul_assoc, Int.mul_comm x.Beats u, Int.mul_assoc, Int.mul_tdiv_cancel_left _ (by omega), Option.bind_some, w64_id (by omega)]
  rcases h3 with h3 | h3 | h3 | h3 | h3
  · exact hq 1 192 (by omega) (by omega) (by omega) (by omega) h3
  · exact hq 2 96 (by omega) (by omega) (by omega) (by omega) h3
  · exact hq 4 48 (by omega) (by omega) (by omega) (by omega) h3
  · exact hq 8 24 (by omega) (by omega) (by omega) (by omega) h3
  · exact hq 16 12 (by omega) (by omega) (by omega) (by omega) h3
/-- two loops whose rounds answer alike -/
theorem rangeM_two {α σ ρ ρ' : Type} (f : Nat → α → σ → Option (Flow σ ρ)) (g : Nat → α → σ → Option (Flow σ ρ')) (xs : List α) (I : Nat → σ → Prop)
    (h : ∀ i x s, xs[i]? = some x → I i s → ∃ s', f i x s = some (.nxt s') ∧ g i x s = some (.nxt s') ∧ I (i + 1) s') (s : σ) (h0 : I 0 s) :
    ∃ s', rangeM f 0 xs s = some (.brk s') ∧ rangeM g 0 xs s = some (.brk s') ∧ I xs.length s' := by
  have key : ∀ (t : List α) (i : Nat) (s : σ), xs.drop i = t → I i s → ∃ s', rangeM f i t s = some (.brk s') ∧ rangeM g i t s = some (.brk s') ∧ I (i + t.length) s' := by
    intro t
    induction t with
    | nil => intro i s _ hs; exact ⟨s, rfl, rfl, by simpa using hs⟩
    | cons x t ih =>
      intro i s hd hs
      obtain ⟨hx, hd'⟩ := drop_cons hd
      obtain ⟨s', h1, h1', h2⟩ := h i x s hx hs
      obtain ⟨s'', h3, h3', h4⟩ := ih (i + 1) s' hd' h2
      exact ⟨s'', by rw [rangeM_cons, h1]; simpa using h3, by rw [rangeM_cons, h1']; simpa using h3', by simpa [Nat.add_assoc, Nat.add_comm 1] using h4⟩
  have := key xs 0 s rfl h0
  simpa using this
theorem passF_mem (bs : List TBar) (p : Int) : ∀ (c n : Nat), ∀ k ∈ passF bs p n c, ∃ j : Nat, k = j ∧ ∃ x, bs[j]? = some x
  | 0, n, k, h => by simp [passF] at h
  | c + 1, n, k, h => by
    unfold passF at h
    cases hs : sungB bs p n with
    | false => rw [hs] at h; exact passF_mem bs p c (n + 1) k h
    | true =>
      rw [hs] at h
      rcases List.mem_cons.1 h with rfl | h
      · refine ⟨n, rfl, ?_⟩
        unfold sungB at hs
        cases hb : bs[n]? with
        | none => rw [hb] at hs; cases hs
        | some x => exact ⟨x, rfl⟩
      · exact passF_mem bs p c (n + 1) k h
theorem passes_mem (bs : List TBar) (a c : Nat) : ∀ (m : Nat) (p : Int), ∀ k ∈ passes bs a c m p, ∃ j : Nat, k = j ∧ ∃ x, bs[j]? = some x
  | 0, p, k, h => by simp [passes] at h
  | m + 1, p, k, h => by
    rcases List.mem_append.1 (show k ∈ passF bs p a c ++ passes bs a c m (p + 1) from h) with h | h
    · exact passF_mem bs p c a k h
    · exact passes_mem bs a c m (p + 1) k h
theorem expand_mem (bs : List TBar) : ∀ (gs : List Grp), ∀ k ∈ expand bs gs, ∃ j : Nat, k = j ∧ ∃ x, bs[j]? = some x
  | [], k, h => by simp [expand] at h
  | g :: gs, k, h => by
    rcases List.mem_append.1 (show k ∈ passes bs g.1 (g.2.1 - g.1) g.2.2.toNat 1 ++ expand bs gs from h) with h | h
    · exact passes_mem bs _ _ _ _ k h
    · exact expand_mem bs gs k h
theorem Order_spec {bs : List TBar} (h : cB bs = 0) : m_piece_Order bs = some (expand bs (gsB none 0 bs), 0) ∧ m_gleeref2_OrderOf bs = some (expand bs (gsB none 0 bs)) := by
  obtain ⟨hl, r, hg, h1, h2, h3⟩ := cB_zero h
  refine ⟨?_, OrderOf_spec bs (by omega) r hg h1⟩
  unfold m_piece_Order
  rw [CheckBars_spec bs (by omega), h, Option.bind_some]
  show (m_piece_played bs).bind _ = _
  rw [played_spec h]; rfl
theorem written_spec : m_gleelaw2_written = some true := by
  have h : cB [TBar.mk 1 4 2 0 true] = 0 := by decide
  have e : expand [TBar.mk 1 4 2 0 true] (gsB none 0 [TBar.mk 1 4 2 0 true]) = [0, 0] := by decide
  have := (Order_spec h).1
  rw [e] at this
  unfold m_gleelaw2_written
  rw [this, Option.bind_some]
  show (m_slices_Equal_int_int [0, 0] [0, 0]).bind _ = _
  rw [Equal_refl]; rfl
end Go.G
