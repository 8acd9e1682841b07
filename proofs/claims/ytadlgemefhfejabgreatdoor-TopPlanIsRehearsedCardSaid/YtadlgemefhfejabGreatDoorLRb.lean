/- LRb: wishes: what is wrong with them, what is wished (a search by halves); windows and pieces to be planned. In plain Lean, no program in sight. -/
import Derived.Test.YtadlgemefhfejabGreatDoorLRa
namespace Go.G
open Go Go.J
set_option linter.unusedSimpArgs false
set_option linter.unusedVariables false
def wiF (w : List TWish) (i : Nat) (x : TWish) : Int :=
  bif !isKey x.Piece then 5 else bif !decide (1 ≤ x.Need ∧ x.Need ≤ 86400000) then 1 else bif (if i = 0 then false else match w[i - 1]? with | some p => !decide (bytesOf p.Piece < bytesOf x.Piece) | none => false) then 7 else 0
theorem Outside_s (n lo hi : Int) : m_kit_Outside n lo hi = some (!decide (lo ≤ n ∧ n ≤ hi)) := by
  unfold m_kit_Outside
  by_cases h1 : n < lo
  · rw [decide_eq_true h1, ifB_true, decide_eq_false (by omega)]; rfl
  · rw [decide_eq_false h1, ifB_false]
    by_cases h2 : n > hi
    · rw [decide_eq_true h2, decide_eq_false (by omega)]; rfl
    · rw [decide_eq_false h2, decide_eq_true (by omega)]; rfl
theorem wi_prog (w : List TWish) (hl : w.length ≤ 1000000) (i : Nat) (x : TWish) (hx : w[i]? = some x) : m_rehearse_CheckWishes_l1 w i x () = some (out1S (wiF w i x)) := by
  have hi := (List.getElem?_eq_some_iff.1 hx).1
  unfold m_rehearse_CheckWishes_l1 wiF out1S
  rw [isKey_prog, Outside_s]
  cases isKey x.Piece
  · rfl
  cases decide (1 ≤ x.Need ∧ x.Need ≤ 86400000)
  · rfl
  simp only [Option.bind_some, Bool.not_true, ifB_false, cond_false]
  by_cases h0 : i = 0
  · rw [if_pos h0, decide_eq_false (by omega)]; rfl
  · have hg : w[i - 1]? = some (w[i - 1]'(by omega)) := List.getElem?_eq_getElem (by omega)
    rw [if_neg h0, decide_eq_true (by omega), ifB_true, w64_id (by omega), getI_of (n := i - 1) (by omega) hg, hg, Option.bind_some, bl_or]
    simp only
    cases decide (bytesOf (w[i - 1]'(by omega)).Piece < bytesOf x.Piece) <;> rfl
def WiOK (w : List TWish) : Prop := w.length ≤ 200 ∧ ∀ (i : Nat) x, w[i]? = some x → wiF w i x = 0
theorem key_ne {s : ByteArray} (h : isKey s = true) : bytesOf ByteArray.empty < bytesOf s := by
  unfold isKey at h
  rw [Bool.and_eq_true, Bool.and_eq_true, decide_eq_true_eq] at h
  have h1 : 1 ≤ (bytesOf s).length := by
    show 1 ≤ s.data.toList.length
    rw [Array.length_toList]; exact h.1.1.1
  have e : bytesOf ByteArray.empty = [] := rfl
  rw [e]
  cases hb : bytesOf s with
  | nil => rw [hb] at h1; simp at h1
  | cons a t => exact List.nil_lt_cons a t
theorem wi_ref (w : List TWish) (hl : w.length ≤ 1000000) : ∀ (t : List TWish) (i : Nat) (last : ByteArray), w.drop i = t → (last = match i with | 0 => ByteArray.empty | k + 1 => ((w[k]?).map (·.Piece)).getD ByteArray.empty) →
    ∃ e, ((rangeM m_gleeref2_WishesFault_l1 i t last).bind fun f7 => Flow.fin f7 fun _ => some 0) = some e ∧ (e = 0 → ∀ (j : Nat) x, i ≤ j → w[j]? = some x → wiF w j x = 0) := by
  intro t
  induction t with
  | nil =>
    intro i last hd _
    refine ⟨0, rfl, fun _ j x hj hx => ?_⟩
    have := (List.getElem?_eq_some_iff.1 hx).1
    have := List.drop_eq_nil_iff.1 hd
    omega
  | cons x t ih =>
    intro i last hd hlast
    have hx : w[i]? = some x := by
      have := congrArg (fun l => l[0]?) hd
      simpa using this
    have hi := (List.getElem?_eq_some_iff.1 hx).1
    have ht : w.drop (i + 1) = t := by
      have := congrArg List.tail hd
      simpa [List.tail_drop] using this
    have hst : m_gleeref2_WishesFault_l1 i x last = some (bif wiF w i x != 0 then .ret (wiF w i x) else .nxt x.Piece) := by
      unfold m_gleeref2_WishesFault_l1 wiF
      rw [isKey_ref, in_spec]
      cases hk : isKey x.Piece
      · rfl
      cases decide (1 ≤ x.Need ∧ x.Need ≤ 86400000)
      · rfl
      simp only [Option.bind_some, Bool.not_true, ifB_false, cond_false]
      rw [bl_or]
      cases i with
      | zero =>
        subst hlast
        rw [if_pos rfl, decide_eq_true (key_ne hk)]; rfl
      | succ k =>
        have hg : w[k]? = some (w[k]'(by omega)) := List.getElem?_eq_getElem (by omega)
        simp only [hg, Option.map_some, Option.getD_some] at hlast
        subst hlast
        rw [if_neg (by omega), Nat.add_sub_cancel, hg]
        simp only
        cases decide (bytesOf (w[k]'(by omega)).Piece < bytesOf x.Piece) <;> rfl
    rw [rangeM_cons, hst]
    cases hf : (wiF w i x != 0) with
    | true => exact ⟨wiF w i x, rfl, fun e => absurd e (by simpa using hf)⟩
    | false =>
      rw [cond_false, Option.bind_some, run_nxt]
      obtain ⟨e, h1, h2⟩ := ih (i + 1) x.Piece ht (by simp [hx])
      refine ⟨e, h1, fun he j y hj hy => ?_⟩
      by_cases hji : j = i
      · subst hji
        rw [hx] at hy; cases hy
        simpa using hf
      · exact h2 he j y (by omega) hy
theorem Wishes_zero (w : List TWish) : ∃ e, m_gleeref2_WishesFault w = some e ∧ (e = 0 → WiOK w) := by
  unfold m_gleeref2_WishesFault
  by_cases h : (w.length : Int) > 200
  · rw [decide_eq_true h, ifB_true]; exact ⟨2, rfl, fun g => by cases g⟩
  · rw [decide_eq_false h, ifB_false]
    obtain ⟨e, h1, h2⟩ := wi_ref w (by omega) w 0 ByteArray.empty rfl rfl
    exact ⟨e, h1, fun g => ⟨by omega, fun i x hx => h2 g i x (Nat.zero_le _) hx⟩⟩
theorem Wishes_ok {w : List TWish} (h : WiOK w) : m_rehearse_CheckWishes w = some 0 := by
  unfold m_rehearse_CheckWishes
  rw [decide_eq_false (by have := h.1; omega), ifB_false]
  obtain ⟨e, h1, h2⟩ := loop_out _ (wiF w) w (wi_prog w (by have := h.1; omega))
  rw [h1, h2.2 h.2]
theorem wi_need {w : List TWish} (h : WiOK w) {x : TWish} (hx : x ∈ w) : 1 ≤ x.Need ∧ x.Need ≤ 86400000 := by
  obtain ⟨i, hi, rfl⟩ := List.getElem_of_mem hx
  have := h.2 i w[i] (List.getElem?_eq_getElem hi)
  unfold wiF at this
  cases hk : isKey w[i].Piece <;> rw [hk] at this
  · cases this
  cases ht : decide (1 ≤ w[i].Need ∧ w[i].Need ≤ 86400000) <;> rw [ht] at this
  · cases this
  exact of_decide_eq_true ht
theorem wi_pw {w : List TWish} (h : WiOK w) : w.Pairwise fun p x => bytesOf p.Piece < bytesOf x.Piece := by
  have hs : ∀ i : Nat, ∀ (h1 : i + 1 < w.length), bytesOf (w[i]'(by omega)).Piece < bytesOf w[i + 1].Piece := by
    intro i h1
    have := h.2 (i + 1) w[i + 1] (List.getElem?_eq_getElem h1)
    unfold wiF at this
    rw [if_neg (by omega), Nat.add_sub_cancel, List.getElem?_eq_getElem (by omega)] at this
    simp only at this
    cases hk : isKey w[i + 1].Piece <;> rw [hk] at this
    · cases this
    cases ht : decide (1 ≤ w[i + 1].Need ∧ w[i + 1].Need ≤ 86400000) <;> rw [ht] at this
    · cases this
    cases ho : decide (bytesOf (w[i]'(by omega)).Piece < bytesOf w[i + 1].Piece) <;> rw [ho] at this
    · cases this
    · exact of_decide_eq_true ho
  have key : ∀ (n i : Nat) (hi : i + n + 1 < w.length), bytesOf (w[i]'(by omega)).Piece < bytesOf w[i + n + 1].Piece := by
    intro n
    induction n with
    | zero => intro i hi; exact hs i hi
    | succ n ih => intro i hi; exact List.lt_trans (ih i (by omega)) (hs (i + n + 1) (by omega))
  rw [List.pairwise_iff_getElem]
  intro i j hi hj hij
  have := key (j - i - 1) i (by omega)
  have e : i + (j - i - 1) + 1 = j := by omega
  simp only [e] at this
  exact this
/-! a search by halves -/
theorem half_u (n : Nat) (h : n ≤ 1000000) : shrM (IntKind.wrap .u64 (w64 ((n : Int)))) 1 = some ((n / 2 : Nat) : Int) := by
  rw [w64_id (by omega)]
  have e : IntKind.u64.wrap (n : Int) = (n : Int) := by
    have : IntKind.u64.wrap (n : Int) = (n : Int) % 18446744073709551616 := by simp [IntKind.wrap, IntKind.bits, IntKind.signed]
    omega
  rw [e]
  unfold shrM
  rw [if_neg (by omega)]
  congr 1
  show (n : Int).fdiv 2 = _
  rw [Int.fdiv_eq_ediv_of_nonneg _ (by omega)]
  omega
theorem wrap_i (n : Nat) (h : n ≤ 1000000) : IntKind.wrap .i64 (n : Int) = (n : Int) := by
  rw [IntKind.wrap_i64]; omega
def wishOf (w : List TWish) (p : ByteArray) : Option Int := (w.find? fun x => decide (x.Piece = p)).map (·.Need)
theorem needOf_spec (w : List TWish) (p : ByteArray) (h : WiOK w) : m_rehearse_needOf w p = some (match wishOf w p with | some n => (n, true) | none => (1, false)) := by
  have hpw := List.pairwise_iff_getElem.1 (wi_pw h)
  have hl := h.1
  unfold m_rehearse_needOf m_slices_BinarySearchFunc_api_Wish_api_Wish_string__rehearse_needOf_1
  have hcmp : ∀ x : TWish, m_rehearse_needOf_1 x p = some (Lib.compareBytes (bytesOf x.Piece) (bytesOf p)) := fun x => rfl
  obtain ⟨f, h1, h2⟩ := loopM_post (m_slices_BinarySearchFunc_api_Wish_api_Wish_string__rehearse_needOf_1_l1 w p)
    (fun s => ∃ a b : Nat, s = ((a : Int), (b : Int)) ∧ a ≤ b ∧ b ≤ w.length ∧ (∀ k x, k < a → w[k]? = some x → bytesOf x.Piece < bytesOf p) ∧ ∀ k x, b ≤ k → w[k]? = some x → ¬ bytesOf x.Piece < bytesOf p)
    (fun s => (s.2 - s.1).toNat)
    (fun f => match f with | .brk s => ∃ a : Nat, s = ((a : Int), (a : Int)) ∧ a ≤ w.length ∧ (∀ k x, k < a → w[k]? = some x → bytesOf x.Piece < bytesOf p) ∧ ∀ k x, a ≤ k → w[k]? = some x → ¬ bytesOf x.Piece < bytesOf p | _ => False) (by
      rintro s ⟨a, b, rfl, hab, hb, ha1, hb1⟩
      unfold m_slices_BinarySearchFunc_api_Wish_api_Wish_string__rehearse_needOf_1_l1
      simp only
      by_cases hlt : (a : Int) < (b : Int)
      · have hm : (a + b) / 2 < w.length := by omega
        have hx : w[(a + b) / 2]? = some w[(a + b) / 2] := List.getElem?_eq_getElem hm
        have hh := half_u (a + b) (by omega)
        rw [Int.natCast_add] at hh
        rw [decide_eq_true hlt, ifB_true, hh, Option.bind_some, wrap_i _ (by omega), getI_of rfl hx, Option.bind_some, hcmp, Option.bind_some]
        rcases cb_spec (bytesOf w[(a + b) / 2].Piece) (bytesOf p) with ⟨g1, g2⟩ | ⟨g1, g2⟩ | ⟨g1, g2⟩
        · left
          refine ⟨(((a + b) / 2 + 1 : Nat), (b : Int)), ?_, ⟨(a + b) / 2 + 1, b, rfl, by omega, hb, ?_, hb1⟩, ?_⟩
          · rw [g1, decide_eq_true (by decide), ifB_true, w64_id (by omega)]; rfl
          · intro k x hk hkx
            by_cases hke : k = (a + b) / 2
            · subst hke; rw [hx] at hkx; cases hkx; exact g2
            · have hk' : k < (a + b) / 2 := by omega
              have := hpw k ((a + b) / 2) (by omega) hm hk'
              have e : w[k]'(by omega) = x := by rw [List.getElem?_eq_getElem (by omega)] at hkx; exact Option.some.inj hkx
              rw [e] at this
              exact List.lt_trans this g2
          · simp only; omega
        · left
          refine ⟨((a : Int), (((a + b) / 2 : Nat) : Int)), ?_, ⟨a, (a + b) / 2, rfl, by omega, by omega, ha1, ?_⟩, ?_⟩
          · rw [g1, decide_eq_false (by decide), ifB_false]
          · intro k x hk hkx hlt2
            have hkl := (List.getElem?_eq_some_iff.1 hkx).1
            have e : w[k]'(by omega) = x := by rw [List.getElem?_eq_getElem (by omega)] at hkx; exact Option.some.inj hkx
            by_cases hke : k = (a + b) / 2
            · subst hke; rw [e] at g2; rw [g2] at hlt2; exact bs_irr _ hlt2
            · have := hpw ((a + b) / 2) k hm hkl (by omega)
              rw [e, g2] at this
              exact bs_asym this hlt2
          · simp only; omega
        · left
          refine ⟨((a : Int), (((a + b) / 2 : Nat) : Int)), ?_, ⟨a, (a + b) / 2, rfl, by omega, by omega, ha1, ?_⟩, ?_⟩
          · rw [g1, decide_eq_false (by decide), ifB_false]
          · intro k x hk hkx hlt2
            have hkl := (List.getElem?_eq_some_iff.1 hkx).1
            have e : w[k]'(by omega) = x := by rw [List.getElem?_eq_getElem (by omega)] at hkx; exact Option.some.inj hkx
            by_cases hke : k = (a + b) / 2
            · subst hke; rw [e] at g2; exact bs_asym g2 hlt2
            · have := hpw ((a + b) / 2) k hm hkl (by omega)
              rw [e] at this
              exact bs_asym (List.lt_trans g2 this) hlt2
          · simp only; omega
      · right; left
        refine ⟨((a : Int), (b : Int)), by rw [decide_eq_false hlt, ifB_false], a, ?_, by omega, ha1, ?_⟩
        · have : a = b := by omega
          rw [this]
        · have : a = b := by omega
          rw [this]; exact hb1) (0, (w.length : Int)) ⟨0, w.length, rfl, Nat.zero_le _, Nat.le_refl _, fun k x hk => absurd hk (by omega), fun k x hk hx => absurd (List.getElem?_eq_some_iff.1 hx).1 (by omega)⟩
  rw [h1, Option.bind_some]
  match f, h2 with
  | .brk s, h2 =>
    obtain ⟨a, rfl, ha, hlo, hhi⟩ := h2
    rw [fin_brk]
    simp only
    unfold wishOf
    by_cases hal : a < w.length
    · have hx : w[a]? = some w[a] := List.getElem?_eq_getElem hal
      rw [decide_eq_true (by omega), ifB_true, getI_of rfl hx, Option.bind_some, hcmp, Option.bind_some, Option.bind_some]
      rcases cb_spec (bytesOf w[a].Piece) (bytesOf p) with ⟨g1, g2⟩ | ⟨g1, g2⟩ | ⟨g1, g2⟩
      · exact absurd g2 (hhi a _ (Nat.le_refl _) hx)
      · have hp : w[a].Piece = p := ba_toList_inj.1 (by rw [ByteArray.toList_eq, ByteArray.toList_eq]; exact g2)
        have hf : w.find? (fun x => decide (x.Piece = p)) = some w[a] := by
          rw [List.find?_eq_some_iff_getElem]
          refine ⟨decide_eq_true hp, a, hal, rfl, fun j hj => ?_⟩
          have := hlo j _ hj (List.getElem?_eq_getElem (by omega))
          simp only [Bool.not_eq_true', decide_eq_false_iff_not]
          intro e
          rw [e] at this
          exact bs_irr _ this
        rw [g1, hf]
        simp only [beq_self_eq_true, Bool.not_true, ifB_false, Option.map_some]
        rw [getI_of rfl hx]; rfl
      · have hf : w.find? (fun x => decide (x.Piece = p)) = none := by
          rw [List.find?_eq_none]
          intro x hxm e
          have e := of_decide_eq_true e
          obtain ⟨k, hk, rfl⟩ := List.getElem_of_mem hxm
          by_cases hka : k < a
          · have := hlo k _ hka (List.getElem?_eq_getElem hk)
            rw [e] at this; exact bs_irr _ this
          · by_cases hke : k = a
            · subst hke; rw [e] at g2; exact bs_irr _ g2
            · have := hpw a k hal hk (by omega)
              rw [e] at this; exact bs_asym g2 this
        rw [g1, hf]; rfl
    · rw [decide_eq_false (by omega), ifB_false, Option.bind_some]
      have hf : w.find? (fun x => decide (x.Piece = p)) = none := by
        rw [List.find?_eq_none]
        intro x hxm e
        have e := of_decide_eq_true e
        obtain ⟨k, hk, rfl⟩ := List.getElem_of_mem hxm
        have := hlo k _ (by omega) (List.getElem?_eq_getElem hk)
        rw [e] at this; exact bs_irr _ this
      rw [hf]; rfl
/-! windows to be planned -/
def frF (free : List TWindow) (i : Nat) (x : TWindow) : Int := bif !isT x then 1 else bif (if i = 0 then false else match free[i - 1]? with | some p => decide (x.From < p.To) | none => false) then 7 else 0
theorem fr_prog (free : List TWindow) (hl : free.length ≤ 1000000) (i : Nat) (x : TWindow) (hx : free[i]? = some x) : m_rehearse_planFault_l1 free i x () = some (out1S (frF free i x)) := by
  have hi := (List.getElem?_eq_some_iff.1 hx).1
  unfold m_rehearse_planFault_l1 frF out1S
  rw [IsTime_T]
  cases isT x
  · rfl
  simp only [Option.bind_some, Bool.not_true, ifB_false, cond_false]
  by_cases h0 : i = 0
  · rw [if_pos h0, decide_eq_false (by omega)]; rfl
  · have hg : free[i - 1]? = some (free[i - 1]'(by omega)) := List.getElem?_eq_getElem (by omega)
    rw [if_neg h0, decide_eq_true (by omega), ifB_true, w64_id (by omega), getI_of (n := i - 1) (by omega) hg, hg, Option.bind_some]
    simp only
    cases decide (x.From < (free[i - 1]'(by omega)).To) <;> rfl
theorem fr_ref (free : List TWindow) (hl : free.length ≤ 1000000) (i : Nat) (x : TWindow) (hx : free[i]? = some x) : m_gleeref2_PlanFault_l1 free i x () = some (out1S (frF free i x)) := by
  have hi := (List.getElem?_eq_some_iff.1 hx).1
  unfold m_gleeref2_PlanFault_l1 frF out1S
  rw [timeFault_T]
  cases isT x
  · rfl
  simp only [Option.bind_some, Bool.not_true, ifB_false, cond_false, cond_true, bne_self_eq_false]
  by_cases h0 : i = 0
  · rw [if_pos h0, decide_eq_false (by omega)]; rfl
  · have hg : free[i - 1]? = some (free[i - 1]'(by omega)) := List.getElem?_eq_getElem (by omega)
    rw [if_neg h0, decide_eq_true (by omega), ifB_true, w64_id (by omega), getI_of (n := i - 1) (by omega) hg, hg, Option.bind_some]
    simp only
    cases decide (x.From < (free[i - 1]'(by omega)).To) <;> rfl
structure FrOK (free : List TWindow) (pieces : List ByteArray) : Prop where
  len : free.length ≤ 6
  ok : ∀ (i : Nat) x, free[i]? = some x → frF free i x = 0
  ne : free.length = 0 ∨ pieces.length ≠ 0
  pl : pieces.length ≤ 6
  rise : m_gleeref2_Rising pieces = some 0
theorem Plan_zero (free : List TWindow) (pieces : List ByteArray) (hp : pieces.length ≤ 6) : ∃ e, m_gleeref2_PlanFault free pieces = some e ∧ (e = 0 → FrOK free pieces) := by
  unfold m_gleeref2_PlanFault
  by_cases h : (free.length : Int) > 6
  · rw [decide_eq_true h, ifB_true]; exact ⟨2, rfl, fun g => by cases g⟩
  · rw [decide_eq_false h, ifB_false]
    obtain ⟨e, h1, h2⟩ := loop_out _ (frF free) free (fr_ref free (by omega))
    cases hr : rangeM (m_gleeref2_PlanFault_l1 free) 0 free () with
    | none => rw [hr] at h1; cases h1
    | some f =>
      rw [hr] at h1
      rw [Option.bind_some] at h1 ⊢
      cases f with
      | nxt s => cases h1
      | ret v => exact ⟨v, rfl, fun g => by
          rw [fin_ret] at h1
          cases h1
          subst g
          exact absurd (h2.1 rfl) (fun hh => by
            have : ∀ (t : List TWindow) (i : Nat), free.drop i = t → ∀ v, rangeM (m_gleeref2_PlanFault_l1 free) i t () ≠ some (.ret v) := by
              intro t
              induction t with
              | nil => intro i _ v g; cases g
              | cons x t ih =>
                intro i hd v g
                have hx : free[i]? = some x := by
                  have := congrArg (fun l => l[0]?) hd
                  simpa using this
                have ht : free.drop (i + 1) = t := by
                  have := congrArg List.tail hd
                  simpa [List.tail_drop] using this
                rw [rangeM_cons, fr_ref free (by omega) i x hx, hh i x hx] at g
                exact ih (i + 1) ht v g
            exact this free 0 rfl 0 hr)⟩
      | brk s =>
        rw [fin_brk] at h1
        rw [fin_brk]
        cases h1
        have hok := h2.1 rfl
        have hrr := Rising_F pieces (by omega)
        by_cases hn : free.length = 0
        · rw [decide_eq_false (by omega), ifB_false, Option.bind_some, fin_inl, ifB_false, decide_eq_false (by omega), ifB_false, hrr]
          exact ⟨risF pieces, rfl, fun g => ⟨by omega, hok, .inl hn, hp, by rw [hrr, g]⟩⟩
        · rw [decide_eq_true (by omega), ifB_true, Option.bind_some, fin_inl]
          by_cases hp0 : pieces.length = 0
          · rw [show ((pieces.length : Int) == 0) = true by rw [hp0]; rfl, ifB_true]; exact ⟨8, rfl, fun g => by cases g⟩
          · rw [show ((pieces.length : Int) == 0) = false by rw [beq_eq_false_iff_ne]; omega, ifB_false, decide_eq_false (by omega), ifB_false, hrr]
            exact ⟨risF pieces, rfl, fun g => ⟨by omega, hok, .inr hp0, hp, by rw [hrr, g]⟩⟩
theorem Plan_ok {free : List TWindow} {pieces : List ByteArray} (h : FrOK free pieces) : m_rehearse_planFault free pieces = some 0 := by
  unfold m_rehearse_planFault
  rw [decide_eq_false (by have := h.len; omega), ifB_false]
  have hrun : rangeM (m_rehearse_planFault_l1 free) 0 free () = some (.brk ()) := by
    have : ∀ (t : List TWindow) (i : Nat), free.drop i = t → rangeM (m_rehearse_planFault_l1 free) i t () = some (.brk ()) := by
      intro t
      induction t with
      | nil => intro i _; rfl
      | cons x t ih =>
        intro i hd
        have hx : free[i]? = some x := by
          have := congrArg (fun l => l[0]?) hd
          simpa using this
        have ht : free.drop (i + 1) = t := by
          have := congrArg List.tail hd
          simpa [List.tail_drop] using this
        rw [rangeM_cons, fr_prog free (by have := h.len; omega) i x hx, h.ok i x hx]
        exact ih (i + 1) ht
    exact this free 0 rfl
  rw [hrun, Option.bind_some, fin_brk]
  by_cases hn : free.length = 0
  · rw [decide_eq_false (by omega), ifB_false, Option.bind_some, fin_inl, ifB_false, decide_eq_false (by have := h.pl; omega), ifB_false, names_eq, h.rise]; rfl
  · have hp0 : pieces.length ≠ 0 := h.ne.resolve_left hn
    rw [decide_eq_true (by omega), ifB_true, Option.bind_some, fin_inl, show ((pieces.length : Int) == 0) = false by rw [beq_eq_false_iff_ne]; omega, ifB_false, decide_eq_false (by have := h.pl; omega), ifB_false, names_eq, h.rise]; rfl
theorem fr_isT {free : List TWindow} (h : ∀ (i : Nat) x, free[i]? = some x → frF free i x = 0) {x : TWindow} (hx : x ∈ free) : isT x = true := by
  obtain ⟨i, hi, rfl⟩ := List.getElem_of_mem hx
  have := h i free[i] (List.getElem?_eq_getElem hi)
  unfold frF at this
  cases ht : isT free[i] with
  | true => rfl
  | false => rw [ht] at this; cases this
end Go.G
