/- LMd: debts in order. In plain Lean, no program in sight. -/
import Derived.Test.YtobglahldcnnmaaGreatDoorLYe
import Derived.Test.YtobglahldcnnmaaGreatDoorLS2
namespace Go.G
open Go Go.J
set_option linter.unusedSimpArgs false
theorem bytes_inj {a b : ByteArray} (h : bytesOf a = bytesOf b) : a = b := bytes_inj' h
theorem insS (u : List Tclub_debt) (a b : Int) : m_slices_insertionSortCmpFunc_club_debt__club_books_owing_1 u a b = isM m_club_books_owing_1 u a b := rfl
theorem wrap_len {n : Nat} (h : n ≤ 1000) : IntKind.wrap .u64 (n : Int) = n := by rw [IntKind.wrap_u64]; omega
theorem sortS_spec (u : List Tclub_debt) (h : u.length ≤ 12) : m_slices_SortFunc_club_debt_club_debt__club_books_owing_1 u = isM m_club_books_owing_1 u 0 (u.length : Int) := by
  unfold m_slices_SortFunc_club_debt_club_debt__club_books_owing_1 m_bits_Len m_bits_Len64
  rw [wrap_len (by omega), if_pos (by omega)]
  simp only [Option.bind_some]
  unfold m_slices_pdqsortCmpFunc_club_debt__club_books_owing_1
  cases hs : isM m_club_books_owing_1 u 0 (u.length : Int) with
  | none =>
    exfalso
    have hc : ∀ x ∈ u, ∀ y ∈ u, ∃ c, m_club_books_owing_1 x y = some c := fun x _ y _ => by
      unfold m_club_books_owing_1 m_cmp_Compare_int m_cmp_isNaN_int m_strings_Compare
      simp only [bne_self_eq_false, Option.bind_some, ifB_false]
      have : ∀ (c : Int), ∃ d, (m_cmp_Or_int [c, Lib.compareBytes x.who.data.toList y.who.data.toList]) = some d := fun c => by
        unfold m_cmp_Or_int
        rw [rangeM_cons]
        unfold m_cmp_Or_int_l1
        cases (c != 0) with
        | true => exact ⟨_, rfl⟩
        | false =>
          rw [ifB_false, Option.bind_some, run_nxt, rangeM_cons]
          cases (Lib.compareBytes x.who.data.toList y.who.data.toList != 0)
          · exact ⟨_, rfl⟩
          · exact ⟨_, rfl⟩
      cases decide (y.cents < x.cents)
      · cases decide (y.cents > x.cents)
        · obtain ⟨d, hd⟩ := this 0; exact ⟨d, by simp only [ifB_false, Option.bind_some, hd]⟩
        · obtain ⟨d, hd⟩ := this 1; exact ⟨d, by simp only [ifB_false, ifB_true, Option.bind_some, hd]⟩
      · obtain ⟨d, hd⟩ := this (-1); exact ⟨d, by simp only [ifB_true, Option.bind_some, hd]⟩
    obtain ⟨m, hm, -⟩ := isM_total m_club_books_owing_1 u (by omega) hc
    rw [hm] at hs; cases hs
  | some m =>
    have h1 : ∀ k, m_slices_pdqsortCmpFunc_club_debt__club_books_owing_1_l1 u 0 (u.length : Int) k () = some (.ret m) := fun k => by
      unfold m_slices_pdqsortCmpFunc_club_debt__club_books_owing_1_l1
      rw [w64_id (by omega), decide_eq_true (by omega), ifB_true, insS, hs]; rfl
    rw [loopM_step (h1 _)]; rfl
def RS (a b : Tclub_debt) : Prop := b.cents < a.cents ∨ (b.cents = a.cents ∧ bytesOf a.who < bytesOf b.who)
def ltS (a b : Tclub_debt) : Bool := decide (b.cents < a.cents) || (decide (b.cents = a.cents) && decide (Lib.compareBytes (bytesOf a.who) (bytesOf b.who) = -1))
theorem cb_neg {a b : Bs} : Lib.compareBytes a b = -1 ↔ a < b := by
  rcases cb_spec a b with ⟨h1, h2⟩ | ⟨h1, h2⟩ | ⟨h1, h2⟩
  · exact ⟨fun _ => h2, fun _ => h1⟩
  · rw [h1]; exact ⟨fun h => by omega, fun h => (bs_irr _ (h2 ▸ h)).elim⟩
  · rw [h1]; exact ⟨fun h => by omega, fun h => (bs_asym h h2).elim⟩
theorem ltS_iff {a b : Tclub_debt} : ltS a b = true ↔ RS a b := by
  unfold ltS RS
  rw [Bool.or_eq_true, Bool.and_eq_true, decide_eq_true_eq, decide_eq_true_eq, decide_eq_true_eq, cb_neg]
theorem RS_trans (a b c : Tclub_debt) (h1 : RS a b) (h2 : RS b c) : RS a c := by
  unfold RS at *
  rcases h1 with h1 | ⟨h1, h3⟩
  · rcases h2 with h2 | ⟨h2, h4⟩
    · left; omega
    · left; omega
  · rcases h2 with h2 | ⟨h2, h4⟩
    · left; omega
    · right; exact ⟨by omega, bs_trans h3 h4⟩
theorem RS_tri (a b : Tclub_debt) (h : a.who ≠ b.who) : RS a b ∨ RS b a := by
  unfold RS
  rcases Int.lt_trichotomy a.cents b.cents with h1 | h1 | h1
  · right; left; exact h1
  · rcases bs_tri (bytesOf a.who) (bytesOf b.who) with h2 | h2 | h2
    · left; right; exact ⟨h1.symm, h2⟩
    · exact (h (bytes_inj h2)).elim
    · right; right; exact ⟨h1, h2⟩
  · left; left; exact h1
theorem cmpSung_spec (a b : Tclub_debt) : ∃ c, m_club_books_owing_1 a b = some c ∧ decide (c < 0) = ltS a b := by
  unfold m_club_books_owing_1 m_cmp_Compare_int m_cmp_isNaN_int m_strings_Compare
  simp only [bne_self_eq_false, Option.bind_some, ifB_false]
  have hor : ∀ (c d : Int), m_cmp_Or_int [c, d] = some (if c ≠ 0 then c else d) := fun c d => by
    unfold m_cmp_Or_int
    rw [rangeM_cons]
    unfold m_cmp_Or_int_l1
    by_cases h : c = 0
    · subst h
      rw [show ((0 : Int) != 0) = false from rfl, ifB_false, Option.bind_some, run_nxt, rangeM_cons]
      by_cases h2 : d = 0
      · subst h2; rfl
      · rw [show (d != 0) = true by simpa using h2]; rfl
    · rw [show (c != 0) = true by simpa using h, if_pos h]; rfl
  have hcb : Lib.compareBytes a.who.data.toList b.who.data.toList = Lib.compareBytes (bytesOf a.who) (bytesOf b.who) := rfl
  unfold ltS
  by_cases h1 : b.cents < a.cents
  · simp only [decide_eq_true h1, ifB_true, Option.bind_some, hor, Bool.true_or]
    exact ⟨_, rfl, by rw [if_pos (by decide)]; decide⟩
  · by_cases h2 : b.cents > a.cents
    · simp only [decide_eq_false h1, decide_eq_true h2, ifB_true, ifB_false, Option.bind_some, hor, Bool.false_or]
      refine ⟨_, rfl, ?_⟩
      rw [decide_eq_false (show ¬ b.cents = a.cents by omega)]; rfl
    · simp only [decide_eq_false h1, decide_eq_false h2, ifB_false, Option.bind_some, hor, Bool.false_or]
      refine ⟨_, rfl, ?_⟩
      rw [decide_eq_true (show b.cents = a.cents by omega), Bool.true_and, hcb, if_neg (by simp)]
      rcases cb_spec (bytesOf a.who) (bytesOf b.who) with ⟨h3, -⟩ | ⟨h3, -⟩ | ⟨h3, -⟩ <;> rw [h3] <;> rfl
/-- debts of distinct people in order: whatever the order they came in -/
theorem debts_one {l l' : List Tclub_debt} (hp : l'.Perm l) (hn : (l.map (·.who)).Nodup) : l'.foldl (ins ltS) [] = l.foldl (ins ltS) [] := by
  have sorted : ∀ L : List Tclub_debt, L.Perm l → (L.foldl (ins ltS) []).Pairwise RS := fun L hL => by
    refine fold_sorted ltS RS_trans _ [] List.Pairwise.nil (fun _ _ y hy => by cases hy) ?_
    have hnd' : (L.map (·.who)).Nodup := (hL.map (·.who)).nodup_iff.2 hn
    rw [List.nodup_iff_pairwise_ne, List.pairwise_map] at hnd'
    exact hnd'.imp fun {a b} hab => ⟨ltS_iff, (RS_tri _ _ fun e => hab e.symm)⟩
  have perm : ∀ L : List Tclub_debt, L.Perm l → (L.foldl (ins ltS) []).Perm l := fun L hL => by
    have := fold_perm ltS L []
    rw [List.nil_append] at this
    exact this.trans hL
  exact List.Perm.eq_of_pairwise (fun x y _ _ h3 h4 => by
      exfalso
      unfold RS at h3 h4
      rcases h3 with h3 | ⟨h3, h5⟩
      · rcases h4 with h4 | ⟨h4, -⟩ <;> omega
      · rcases h4 with h4 | ⟨-, h6⟩
        · omega
        · exact bs_asym h5 h6) (sorted l' hp) (sorted l (List.Perm.refl _)) ((perm l' hp).trans (perm l (List.Perm.refl _)).symm)
theorem debts_perm (l : List Tclub_debt) : (l.foldl (ins ltS) []).Perm l := by
  have := fold_perm ltS l []
  rwa [List.nil_append] at this
theorem sortD (u : List Tclub_debt) (h : u.length ≤ 12) : m_slices_SortFunc_club_debt_club_debt__club_books_owing_1 u = some (u.foldl (ins ltS) []) := by
  rw [sortS_spec u h]
  exact isM_ins ltS m_club_books_owing_1 u (by omega) fun x _ y _ => cmpSung_spec x y
end Go.G
