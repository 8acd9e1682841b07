/- LCs: ClubsStay's law. In plain Lean, no program in sight. -/
import Derived.Test.YtgfbgcdnnkehbabGreatDoorLY6n
import Derived.Test.YtgfbgcdnnkehbabGreatDoorLYo
import Derived.Test.YtgfbgcdnnkehbabGreatDoorLAr
import Derived.Test.YtgfbgcdnnkehbabGreatDoorLR1f
import Derived.Test.YtgfbgcdnnkehbabGreatDoorLS1
import Derived.Lib.ItoaLen
namespace Go.G
open Go Go.J
set_option linter.unusedSimpArgs false
set_option linter.unusedVariables false

/-- an invariant of the books -/
structure BInv (s : Bk) : Prop where
  st : ∀ k, ∀ y ∈ rowOf s.st k, 0 ≤ y.since ∧ y.since ≤ 345686399999
  mo : ∀ p ∈ s.mo, p.1.size ≤ 40
theorem putM_mem {K V : Type} [DecidableEq K] {l : List (K × V)} {k : K} {v : V} {p : K × V} (h : p ∈ putM l k v) : p.1 = k ∨ p ∈ l := by
  unfold putM at h
  split at h
  · obtain ⟨q, hq, e⟩ := List.mem_map.1 h
    split at e
    · left; rw [← e]
    · right; rw [← e]; exact hq
  · rcases List.mem_append.1 h with h | h
    · exact .inr h
    · simp only [List.mem_singleton] at h; left; rw [h]
theorem key_size {k : ByteArray} (h : isKey k = true) : k.size ≤ 40 := by
  unfold isKey at h
  simp only [Bool.and_eq_true, decide_eq_true_eq] at h
  exact h.1.1.2
theorem actF_mot {x : TAct} (h : actF x = 0) (hk : x.Kind = 4) : isKey x.Motion = true := by
  unfold actF at h
  rw [hk] at h
  cases h1 : isKey x.Site
  · rw [h1] at h; cases h
  cases h2 : inR x.No 1 1000000
  · rw [h1, h2] at h; cases h
  cases h3 : isAt x.At
  · rw [h1, h2, h3] at h; cases h
  cases h4 : isKey x.Motion
  · rw [h1, h2, h3, h4] at h; cases h
  · rfl
theorem BInv.step {s : Bk} (h : BInv s) (z : Int) (x : TAct) (hx : actF x = 0) : BInv (stepX s z x) := by
  obtain ⟨-, -, hat, -⟩ := actF_rng hx
  unfold stepX
  split
  · unfold actB
    cases h1 : x.Kind == 1
    case true =>
      simp only [cond_true]
      refine ⟨fun k y hy => ?_, h.mo⟩
      rw [rowOf_put] at hy
      split at hy
      · rcases List.mem_append.1 hy with hy | hy
        · exact h.st _ y hy
        · simp only [List.mem_singleton] at hy; rw [hy]; exact hat
      · exact h.st _ y hy
    simp only [cond_false]
    cases h2 : x.Kind == 2
    case true =>
      simp only [cond_true]
      refine ⟨fun k y hy => ?_, h.mo⟩
      rw [rowOf_put] at hy
      split at hy
      · unfold quitRow at hy
        split at hy
        · rename_i s' hs'
          rcases List.mem_or_eq_of_mem_set hy with hy | hy
          · exact h.st _ y hy
          · rw [hy]; exact h.st _ s' (List.mem_of_getLast? hs')
        · exact h.st _ y hy
      · exact h.st _ y hy
    simp only [cond_false]
    cases h3 : x.Kind == 3
    case true => exact ⟨h.st, h.mo⟩
    simp only [cond_false]
    cases h4 : x.Kind == 4
    case true =>
      simp only [cond_true]
      refine ⟨h.st, fun p hp => ?_⟩
      rcases putM_mem hp with e | hp
      · rw [e]; exact key_size (actF_mot hx (by simpa using h4))
      · exact h.mo p hp
    simp only [cond_false]
    cases hl : lkM s.mo x.Motion with
    | none => exact ⟨h.st, h.mo⟩
    | some t =>
      have hk : x.Motion.size ≤ 40 := h.mo _ (lkM_mem hl)
      have put : ∀ u : Motn, BInv ⟨s.st, s.pd, putM s.mo x.Motion u, s.rf⟩ := fun u => ⟨h.st, fun p hp => by
        rcases putM_mem hp with e | hp
        · rw [e]; exact hk
        · exact h.mo p hp⟩
      simp only
      cases h5 : x.Kind == 5
      case true => exact put _
      simp only [cond_false]
      cases h6 : x.Kind == 6
      case true => exact put _
      exact ⟨h.st, h.mo⟩
  · exact ⟨h.st, h.mo⟩
theorem books_inv (l : List TAct) (at_ : Int) (hl : ActsOK l) : BInv (booksOf l at_) := by
  have key : ∀ (t : List Int) (s : Bk), BInv s → BInv (t.foldl (stepB l) s) := by
    intro t
    induction t with
    | nil => intro s h; exact h
    | cons z t ih =>
      intro s h
      rw [List.foldl_cons]
      refine ih _ ?_
      unfold stepB
      split
      · rename_i x hx
        exact h.step _ _ (hl.ok x (List.mem_of_getElem? hx))
      · exact h
  exact key _ _ ⟨fun k y hy => by simp [rowOf, lkM] at hy, by simp⟩
theorem catM_of {a b : ByteArray} (h : a.size + b.size ≤ 9223372036854775807) : catM a b = some (a ++ b) := by unfold catM; rw [if_pos h]
theorem ba_app (a b : ByteArray) : (a ++ b).size = a.size + b.size := by simp
theorem Itoa_any {t : Int} (h : -9223372036854775808 ≤ t ∧ t ≤ 9223372036854775807) : ∃ y, m_strconv_Itoa t = some y ∧ y.size ≤ 21 := by
  unfold m_strconv_Itoa
  rw [if_pos h]
  refine ⟨_, rfl, ?_⟩
  rw [size_data]
  exact Lib.itoa_length_le t h.1 h.2
theorem spoilA (l : List TAct) : ∃ r, m_gleekeep2_spoil_api_Act l = some r := by
  unfold m_gleekeep2_spoil_api_Act
  obtain ⟨s, h1, -⟩ := rangeM_invx m_gleekeep2_spoil_api_Act_l1 l (fun _ s => s.length = l.length) (by
    intro i x s hx hs
    have hi := (List.getElem?_eq_some_iff.1 hx).1
    unfold m_gleekeep2_spoil_api_Act_l1
    rw [getI_of rfl (List.getElem?_eq_getElem (show i < s.length by omega)), Option.bind_some]
    exact ⟨_, rfl, by simpa using hs⟩) l rfl
  rw [h1]; exact ⟨_, rfl⟩
theorem spoilS (l : List ByteArray) : ∃ r, m_gleekeep2_spoil_string l = some r := by
  unfold m_gleekeep2_spoil_string
  obtain ⟨s, h1, -⟩ := rangeM_invx m_gleekeep2_spoil_string_l1 l (fun _ s => s.length = l.length) (by
    intro i x s hx hs
    have hi := (List.getElem?_eq_some_iff.1 hx).1
    unfold m_gleekeep2_spoil_string_l1
    rw [getI_of rfl (List.getElem?_eq_getElem (show i < s.length by omega)), Option.bind_some]
    exact ⟨_, rfl, by simpa using hs⟩) l rfl
  rw [h1]; exact ⟨_, rfl⟩
theorem EqualA_refl (a : List TAct) : m_slices_Equal_api_Act_api_Act a a = some true := by
  unfold m_slices_Equal_api_Act_api_Act
  rw [show ((a.length : Int) != (a.length : Int)) = false by simp, ifB_false]
  obtain ⟨s, h1, -⟩ := rangeM_invx (m_slices_Equal_api_Act_api_Act_l1 a) a (fun _ _ => True) (by
    intro i x s hx _
    unfold m_slices_Equal_api_Act_api_Act_l1
    rw [getI_of rfl hx, Option.bind_some, decide_eq_true rfl, Bool.not_true, ifB_false]
    exact ⟨_, rfl, trivial⟩) () trivial
  rw [h1]; rfl
theorem ConcatA (gs : List (List TAct)) (h : (List.flatten gs).length ≤ 2000) : m_slices_Concat_api_Act_api_Act gs = some (List.flatten gs) := by
  have k1 : ∀ (l : List (List TAct)) (i : Nat) (u : Int), 0 ≤ u → u + ((List.flatten l).length : Int) ≤ 100000 → rangeM m_slices_Concat_api_Act_api_Act_l1 i l u = some (.brk (u + ((List.flatten l).length : Int))) := by
    intro l
    induction l with
    | nil => intro i u _ _; simp
    | cons g l ih =>
      intro i u hu hb
      simp only [List.flatten_cons, List.length_append, Int.natCast_add] at hb
      have e : m_slices_Concat_api_Act_api_Act_l1 i g u = some (.nxt (u + (g.length : Int))) := by
        unfold m_slices_Concat_api_Act_api_Act_l1
        rw [w64_id (by omega), decide_eq_false (by omega), ifB_false]
      rw [rangeM_cons, e, Option.bind_some, run_nxt, ih (i + 1) _ (by omega) (by omega)]
      simp only [List.flatten_cons, List.length_append, Int.natCast_add, Int.add_assoc]
  have k2 : ∀ (l : List (List TAct)) (i : Nat) (u : List TAct), u.length + (List.flatten l).length ≤ 100000 → rangeM m_slices_Concat_api_Act_api_Act_l2 i l u = some (.brk (u ++ List.flatten l)) := by
    intro l
    induction l with
    | nil => intro i u _; simp
    | cons g l ih =>
      intro i u hb
      simp only [List.flatten_cons, List.length_append] at hb
      have e : m_slices_Concat_api_Act_api_Act_l2 i g u = some (.nxt (u ++ g)) := by
        unfold m_slices_Concat_api_Act_api_Act_l2
        rw [appM_of (by omega) (by omega)]; rfl
      rw [rangeM_cons, e, Option.bind_some, run_nxt, ih (i + 1) _ (by rw [List.length_append]; omega)]
      simp
  unfold m_slices_Concat_api_Act_api_Act
  rw [k1 gs 0 0 (Int.le_refl _) (by omega), Option.bind_some, fin_brk, Int.zero_add]
  have hg : m_slices_Grow_api_Act_api_Act__nil ((List.flatten gs).length : Int) = some [] := by
    unfold m_slices_Grow_api_Act_api_Act__nil
    rw [decide_eq_false (by omega), ifB_false, show w64 (0 - 0) = 0 from rfl, w64_id (by omega)]
    by_cases h0 : ((List.flatten gs).length : Int) - 0 > 0
    · have hgr : growM 112 (((List.flatten gs).length : Int) - 0) = some () := by
        unfold growM
        rw [if_pos ⟨by omega, by omega, by unfold maxLen; omega⟩]
      rw [decide_eq_true h0, ifB_true, hgr]
      rfl
    · rw [decide_eq_false h0, ifB_false]
  rw [hg, Option.bind_some, k2 gs 0 [] (by rw [List.length_nil]; omega), List.nil_append]
  rfl
theorem SortA (u : List TAct) (h : u.length ≤ 12) : ∃ m, m_slices_SortFunc_api_Act_api_Act__club_compare u = some m := by
  obtain ⟨m, hm, -⟩ := isM_total m_club_compare u (by omega) (fun x _ y _ => ⟨_, compare_spec x y⟩)
  have h1 : ∀ k, m_slices_pdqsortCmpFunc_api_Act__club_compare_l1 u 0 (u.length : Int) k () = some (.ret m) := fun k => by
    unfold m_slices_pdqsortCmpFunc_api_Act__club_compare_l1
    rw [w64_id (by omega), decide_eq_true (by omega), ifB_true, show m_slices_insertionSortCmpFunc_api_Act__club_compare u 0 (u.length : Int) = isM m_club_compare u 0 (u.length : Int) from rfl, hm]; rfl
  have wl : IntKind.wrap .u64 (u.length : Int) = (u.length : Int) := by rw [IntKind.wrap_u64]; omega
  unfold m_slices_SortFunc_api_Act_api_Act__club_compare m_bits_Len m_bits_Len64
  rw [wl, if_pos (by omega)]
  simp only [Option.bind_some]
  unfold m_slices_pdqsortCmpFunc_api_Act__club_compare
  rw [loopM_step (h1 _), run_ret]
  exact ⟨m, rfl⟩
theorem Merge_total (x : List TAct) (h : ActsOK x) (hl : x.length ≤ 12) : ∃ r, m_club_Merge x [] = some r := by
  have hnil : ActsOK [] := ⟨by simp, by simp, by simp, by simp⟩
  unfold m_club_Merge
  have e1 : rangeM m_club_Merge_l1 0 [x, []] () = some (.brk ()) := by
    have s1 : ∀ i, m_club_Merge_l1 i x () = some (.nxt ()) := fun i => by
      unfold m_club_Merge_l1; rw [CheckActs_spec, (actsF_zero x).2 h]; rfl
    have s2 : ∀ i, m_club_Merge_l1 i [] () = some (.nxt ()) := fun i => by
      unfold m_club_Merge_l1; rw [CheckActs_spec, (actsF_zero []).2 hnil]; rfl
    rw [rangeM_cons, s1, Option.bind_some, run_nxt, rangeM_cons, s2, Option.bind_some, run_nxt, rangeM_nil]
  have e2 : [x, []].flatten = x := by simp
  rw [e1, Option.bind_some, fin_brk, ConcatA _ (by rw [e2]; omega), e2, Option.bind_some]
  obtain ⟨f, h1, h2⟩ := rangeM_stop m_club_Merge_l2 x (fun i u => u.2.length ≤ i) (fun f => (∃ u, f = .brk u ∧ u.2.length ≤ 12) ∨ f = .ret ([], 13)) (by
    rintro i y ⟨u, v⟩ hy hu
    have hi := (List.getElem?_eq_some_iff.1 hy).1
    simp only at hu
    unfold m_club_Merge_l2
    simp only
    cases hasM u (Tclub_own.mk y.Site y.No)
    · rw [Bool.not_false, ifB_true, appM_of (by simp; omega) (by omega), Option.bind_some]
      exact ⟨_, rfl, fun s' e => by cases e; simp; omega, fun s' e => (by cases e), fun v e => (by cases e)⟩
    · rw [Bool.not_true, ifB_false]
      generalize (!(decide (_ = y))) = d
      cases d
      · rw [ifB_false]
        exact ⟨_, rfl, fun s' e => by cases e; simp only; omega, fun s' e => (by cases e), fun v e => (by cases e)⟩
      · rw [ifB_true]
        exact ⟨_, rfl, fun s' e => (by cases e), fun s' e => (by cases e), fun v e => .inr (by cases e; rfl)⟩) (fun s hs => .inl ⟨s, rfl, by omega⟩) ([], []) (by simp)
  rw [h1, Option.bind_some]
  rcases h2 with ⟨u, rfl, hu⟩ | rfl
  · rw [fin_brk, decide_eq_false (by omega), ifB_false]
    obtain ⟨m, hm⟩ := SortA u.2 hu
    rw [hm]; exact ⟨_, rfl⟩
  · exact ⟨_, rfl⟩
theorem CloneA (l : List TAct) (h : l.length ≤ 1000) : m_slices_Clone_api_Act_api_Act l = some l := by
  unfold m_slices_Clone_api_Act_api_Act
  rw [appM_of (by simp; omega) (by omega)]; rfl
theorem Write_total (x : List TAct) (h : ActsOK x) (hl : x.length ≤ 12) (a : TAct) : ∃ r, m_club_Write x a = some r := by
  unfold m_club_Write
  rw [CheckActs_spec, (actsF_zero x).2 h, Option.bind_some, show ((0 : Int) != 0) = false from rfl, ifB_false]
  cases (a.No != 0)
  · rw [ifB_false]
    obtain ⟨u, h1, -⟩ := rangeM_invx (m_club_Write_l1 a) x (fun _ _ => True) (by
      intro i y s hy _
      unfold m_club_Write_l1
      cases (y.Site.toList == a.Site.toList) <;> exact ⟨_, rfl, trivial⟩) a.No trivial
    rw [h1, Option.bind_some, fin_brk, formed_spec, Option.bind_some, CloneA x (by omega)]
    simp only [Option.bind_some]
    rw [appM_of (by simp; omega) (by omega)]
    simp only [Option.bind_some, fin_inl]
    cases (actF (TAct.mk a.Site (w64 (u + 1)) a.At a.Kind a.Who a.Motion a.Cents a.Yes a.Of a.Other) != 0)
    · rw [ifB_false]
      by_cases h0 : 0 < x.length
      · obtain ⟨y, -, h3, -⟩ := last_get h0 (by omega)
        rw [h3, Option.bind_some, compare_spec, Option.bind_some]
        cases decide ((x.length : Int) > 0) <;> cases decide ((x.length : Int) ≥ 2000) <;> cases decide (cmpA y (TAct.mk a.Site (w64 (u + 1)) a.At a.Kind a.Who a.Motion a.Cents a.Yes a.Of a.Other) ≥ 0) <;> exact ⟨_, rfl⟩
      · rw [decide_eq_false (show ¬ ((x.length : Int) > 0) by omega), ifB_false]
        cases decide ((x.length : Int) ≥ 2000) <;> exact ⟨_, rfl⟩
    · exact ⟨_, rfl⟩
  · exact ⟨_, rfl⟩
theorem due_total (a : Int) (st : Stays) (pd : List (ByteArray × Int)) (mo : Mots) (rf : List Int) (k : ByteArray) : ∃ n, m_club_books_due a st pd mo rf k = some n := by
  unfold m_club_books_due
  obtain ⟨u, h1, -⟩ := rangeM_invx (m_club_books_due_l1 a) ((lkM st k).getD []) (fun _ _ => True) (by
    intro i y s hy _
    unfold m_club_books_due_l1
    cases decide (y.till < 0) <;> exact ⟨_, rfl, trivial⟩) 0 trivial
  rw [h1]; exact ⟨_, rfl⟩
theorem balance_total (a : Int) (st : Stays) (pd : List (ByteArray × Int)) (mo : Mots) (rf : List Int) (k : ByteArray) : ∃ n e, m_club_books_balance a st pd mo rf k = some (n, e) ∧ -9223372036854775808 ≤ n ∧ n ≤ 9223372036854775807 := by
  unfold m_club_books_balance
  obtain ⟨n, hn⟩ := due_total a st pd mo rf k
  rw [hn, Option.bind_some, show (ifB (decide (n > 1000000000000)) (some (.inl true)) (some (.inl (decide (((lkM pd k).getD 0) > 1000000000000)))) : Option (Bool ⊕ (Int × Int))) = some (.inl (bif decide (n > 1000000000000) then true else decide (((lkM pd k).getD 0) > 1000000000000))) by cases decide (n > 1000000000000) <;> rfl, Option.bind_some, fin_inl]
  cases (bif decide (n > 1000000000000) then true else decide (((lkM pd k).getD 0) > 1000000000000))
  · exact ⟨_, _, rfl, w64_rng _⟩
  · exact ⟨0, 12, rfl, by omega, by omega⟩
theorem told_total (a : Int) (s : Bk) (hb : BOK 2000 s) (hi : BInv s) (hm : s.mo.length ≤ 2000) (k : ByteArray) : ∃ r, m_club_books_told a s.st s.pd s.mo s.rf k = some r := by
  have hrow := hb.rows (by omega)
  unfold m_club_books_told
  obtain ⟨n, e, h1, hn⟩ := balance_total a s.st s.pd s.mo s.rf k
  rw [h1, Option.bind_some]
  simp only
  cases (e != 0)
  · rw [ifB_false, isMember_spec _ _ _ _ _ _ (hrow k), Option.bind_some]
    have f1 : ∃ v, (ifB (memK s.st k) ((getI ((lkM s.st k).getD []) (w64 ((((lkM s.st k).getD []).length : Int) - 1))).bind fun e7 => (m_strconv_Itoa e7.since).bind fun y8 => (catM (ByteArray.mk [109, 101, 109, 98, 101, 114, 32, 115, 105, 110, 99, 101, 32].toArray) y8).bind fun c9 => some (.inl c9)) (some (.inl (ByteArray.mk [110, 111, 32, 109, 101, 109, 98, 101, 114].toArray))) : Option (ByteArray ⊕ ((List ByteArray) × Int))) = some (.inl v) := by
      cases hm : memK s.st k
      · exact ⟨_, rfl⟩
      · obtain ⟨y, e1, -, -, e4⟩ := memK_row hm
        obtain ⟨y', f1, f2, -⟩ := last_get e4 (hrow k)
        rw [e1] at f1; cases f1
        have hy := hi.st k y (List.mem_of_getLast? e1)
        obtain ⟨z, g1, g2⟩ := Itoa_any (t := y.since) (by omega)
        rw [ifB_true, show (lkM s.st k).getD [] = rowOf s.st k from rfl, f2, Option.bind_some, g1, Option.bind_some, catM_of (by have : (ByteArray.mk [109, 101, 109, 98, 101, 114, 32, 115, 105, 110, 99, 101, 32].toArray).size = 13 := rfl; omega)]
        exact ⟨_, rfl⟩
    obtain ⟨v, f1⟩ := f1
    rw [f1, Option.bind_some, fin_inl]
    obtain ⟨z, g1, g2⟩ := Itoa_any (t := n) hn
    rw [g1, Option.bind_some, catM_of (by have : (ByteArray.mk [104, 97, 115, 32].toArray).size = 4 := rfl; omega), Option.bind_some]
    obtain ⟨z', g3, g4⟩ := Itoa_any (t := w64 (0 - n)) (w64_rng _)
    rw [g3, Option.bind_some, catM_of (by have : (ByteArray.mk [111, 119, 101, 115, 32].toArray).size = 5 := rfl; omega), Option.bind_some]
    have f2 : ∀ (p q : ByteArray), ∃ v, (ifB (decide (n < 0)) (some (.inl p)) (some (.inl q)) : Option (ByteArray ⊕ ((List ByteArray) × Int))) = some (.inl v) := fun p q => by cases decide (n < 0) <;> exact ⟨_, rfl⟩
    obtain ⟨v2, f3⟩ := f2 (ByteArray.mk [111, 119, 101, 115, 32].toArray ++ z') (ByteArray.mk [104, 97, 115, 32].toArray ++ z)
    rw [f3, Option.bind_some, fin_inl, Option.bind_some]
    cases memK s.st k
    · exact ⟨_, rfl⟩
    · rw [Bool.not_true, ifB_false, open_spec _ _ _ _ _ (by omega), Option.bind_some]
      have hol : ((sortK (s.mo.map Prod.fst)).filter (openM s.mo)).length ≤ 2000 := by
        refine Nat.le_trans (List.length_filter_le ..) ?_
        rw [sortK_len, List.length_map]; exact hm
      obtain ⟨u, h2, -⟩ := rangeM_invx (m_club_books_told_l1 s.mo k) ((sortK (s.mo.map Prod.fst)).filter (openM s.mo)) (fun i u => u.length = i + 2) (by
        intro i y u hy hu
        have hil := (List.getElem?_eq_some_iff.1 hy).1
        have hyo := (List.mem_filter.1 (List.mem_of_getElem? hy)).2
        obtain ⟨t, ht, -⟩ := openM_some hyo
        have hsz := hi.mo _ (lkM_mem ht)
        simp only at hsz
        unfold m_club_books_told_l1
        rw [ht, optB_some]
        have f4 : ∃ w : ByteArray, (ifB (hasM t.2.1 k) ((m_club_yesWord ((lkM t.2.1 k).getD false)).bind fun y43 => some (.inl y43)) (some (.inl (ByteArray.mk [118, 111, 116, 101].toArray))) : Option (ByteArray ⊕ (Flow (List ByteArray) ((List ByteArray) × Int)))) = some (.inl w) ∧ w.size ≤ 4 := by
          unfold m_club_yesWord
          cases hasM t.2.1 k
          · exact ⟨_, rfl, Nat.le_refl _⟩
          · cases (lkM t.2.1 k).getD false
            · exact ⟨_, rfl, by decide⟩
            · exact ⟨_, rfl, by decide⟩
        obtain ⟨w, f5, f6⟩ := f4
        rw [f5, Option.bind_some, fin_inl, catM_of (by have : (ByteArray.mk [32].toArray).size = 1 := rfl; omega), Option.bind_some, catM_of (by rw [ba_app]; have : (ByteArray.mk [32].toArray).size = 1 := rfl; omega), Option.bind_some, appM_of (by simp; omega) (by omega), Option.bind_some]
        exact ⟨_, rfl, by simp [hu]⟩) [v, v2] rfl
      rw [h2]; exact ⟨_, rfl⟩
  · exact ⟨_, rfl⟩
theorem Told_total (l : List TAct) (h : ActsOK l) (k : ByteArray) (a : Int) : ∃ r, m_club_Told l k a = some r := by
  unfold m_club_Told
  rw [named_spec, Option.bind_some]
  by_cases hn : nameF l k a = 0
  · obtain ⟨-, hb⟩ := booksAt_spec l a h.len
    simp only [if_pos hn, optB_some]
    rw [show ((0 : Int) != 0) = false from rfl, ifB_false]
    unfold bookT
    simp only
    obtain ⟨r, hr⟩ := told_total a (booksOf l a) hb (books_inv l a h) (mo_len l a h.len) k
    rw [hr]; exact ⟨_, rfl⟩
  · simp only [if_neg hn, optB_none]
    rw [show (nameF l k a != 0) = true by simpa using hn, ifB_true]
    exact ⟨_, rfl⟩
theorem ClubsStay_true (L : List Int) : m_gleekeep2_ClubsStay L = some true := by
  unfold m_gleekeep2_ClubsStay
  obtain ⟨x, q, h1, -, -, hok, hlen, -⟩ := RightActs_spec L (p := 0) (n := 12) (by omega) (by omega) (by omega) (by omega)
  rw [h1]
  simp only [Option.bind_some]
  obtain ⟨m, h2⟩ := Merge_total x hok (by omega)
  obtain ⟨m', h3⟩ := spoilA m.1
  rw [h2, Option.bind_some, h3, Option.bind_some, Members_spec, Option.bind_some]
  obtain ⟨k', h4⟩ := spoilS (if askF x 60 = 0 then (membersOf (booksOf x 60).st, (0 : Int)) else ([], askF x 60)).1
  rw [h4, Option.bind_some]
  obtain ⟨w, h5⟩ := Write_total x hok (by omega) (TAct.mk (ByteArray.mk [122, 122].toArray) 0 129600000000 2 (ByteArray.mk [97, 110, 110].toArray) ByteArray.empty 0 false ByteArray.empty 0)
  obtain ⟨w', h6⟩ := spoilA w.1
  obtain ⟨t, h7⟩ := Told_total x hok (ByteArray.mk [97, 110, 110].toArray) 60
  obtain ⟨t', h8⟩ := spoilS t.1
  rw [h5, Option.bind_some, h6, Option.bind_some, h7, Option.bind_some, h8, Option.bind_some, EqualA_refl, Option.bind_some, ifB_true, ready_true]; rfl
end Go.G
