/- LVo: VotesAddUp's law. In plain Lean, no program in sight. -/
import Derived.Test.YtgfbgcdnnkehbacGreatDoorLY6n
import Derived.Test.YtgfbgcdnnkehbacGreatDoorLAr
import Derived.Test.YtgfbgcdnnkehbacGreatDoorLR1f
import Derived.Test.YtgfbgcdnnkehbacGreatDoorLE2
namespace Go.G
open Go Go.J
set_option linter.unusedSimpArgs false
set_option linter.unusedVariables false
/-- the members at the end of a motion are no more than there are acts -/
theorem mo_step {n : Nat} {s : Bk} (hb : BOK n s) (hn : n ≤ 2000) (h : ∀ k t, lkM s.mo k = some t → t.2.2.length ≤ 2000) (z : Int) (x : TAct) : ∀ k t, lkM (stepX s z x).mo k = some t → t.2.2.length ≤ 2000 := by
  unfold stepX
  split
  · have put : ∀ (j : ByteArray) (u : Motn), u.2.2.length ≤ 2000 → ∀ k t, lkM (putM s.mo j u) k = some t → t.2.2.length ≤ 2000 := fun j u hu k t ht => by
      rw [lkM_put] at ht
      split at ht
      · cases ht; exact hu
      · exact h k t ht
    unfold actB
    cases h1 : x.Kind == 1
    case true => exact h
    cases h2 : x.Kind == 2
    case true => exact h
    cases h3 : x.Kind == 3
    case true => exact h
    cases h4 : x.Kind == 4
    case true => exact put _ _ (by simp)
    simp only [cond_false]
    cases hl : lkM s.mo x.Motion with
    | none => exact h
    | some t =>
      simp only
      cases h5 : x.Kind == 5
      case true => exact put _ _ (show t.2.2.length ≤ 2000 from h _ _ hl)
      simp only [cond_false]
      cases h6 : x.Kind == 6
      case true =>
        refine put _ _ ?_
        simp only
        unfold membersOf
        have := hb.len
        refine Nat.le_trans (List.length_filter_le ..) ?_
        rw [sortK_len, List.length_map]; omega
      exact h
  · exact h
theorem books_mo (l : List TAct) (at_ : Int) (hl : l.length ≤ 2000) : ∀ k t, lkM (booksOf l at_).mo k = some t → t.2.2.length ≤ 2000 := by
  have hc := cntIx_len at_ l 0
  have key : ∀ (t : List Int) (s : Bk) (n : Nat), BOK n s → n + t.length ≤ 2000 → (∀ k t, lkM s.mo k = some t → t.2.2.length ≤ 2000) → ∀ k u, lkM (t.foldl (stepB l) s).mo k = some u → u.2.2.length ≤ 2000 := by
    intro t
    induction t with
    | nil => intro s n _ _ h; exact h
    | cons z t ih =>
      intro s n hb hn h
      simp only [List.length_cons] at hn
      rw [List.foldl_cons]
      unfold stepB
      cases hx : l[z.toNat]? with
      | none => exact ih s (n + 1) ⟨fun k => Nat.le_trans (hb.row k) (by omega), Nat.le_trans hb.len (by omega), Nat.le_trans hb.rf (by omega)⟩ (by omega) h
      | some x => exact ih _ (n + 1) (hb.step _ _) (by omega) (mo_step hb (by omega) h z x)
  exact key (cntIx at_ 0 l) ⟨[], [], [], []⟩ 0 ⟨fun k => by simp [rowOf, lkM], by simp, by simp⟩ (by omega) (fun k t h => by simp [lkM] at h)
def openOf (mo : Mots) : List ByteArray → List ByteArray := fun l => l.filter (openM mo)
theorem open_spec (a : Int) (st : Stays) (pd : List (ByteArray × Int)) (mo : Mots) (rf : List Int) (hl : mo.length ≤ 1000000) : m_club_books_open a st pd mo rf = some ((sortK (mo.map Prod.fst)).filter (openM mo)) := by
  unfold m_club_books_open m_slices_Sorted_string__maps_Keys_map_string_club_motion_string_club_motion_1
  rw [if_pos (by omega), Sort_K _ (by simp; omega), Option.bind_some, rangeM_filterMap _ (fun x => if openM mo x then some x else none) _ (by
    intro i x s hx hs
    have hi := (List.getElem?_eq_some_iff.1 hx).1
    rw [sortK_len] at hi
    simp only [List.length_map] at hi
    unfold m_club_books_open_l1
    rw [isOpen_spec, Option.bind_some]
    cases hm : openM mo x
    · simp
    · rw [ifB_true, appM_of (by simp; omega) (by omega)]; simp), Option.bind_some, fin_brk]
  rw [← List.filterMap_eq_filter]
  congr 2
theorem mo_len (l : List TAct) (at_ : Int) (hl : l.length ≤ 2000) : (booksOf l at_).mo.length ≤ 2000 := by
  have hc := cntIx_len at_ l 0
  have step : ∀ (s : Bk) (z : Int) (x : TAct), (stepX s z x).mo.length ≤ s.mo.length + 1 := by
    intro s z x
    unfold stepX
    split
    · unfold actB
      cases x.Kind == 1
      case true => simp only [cond_true]; omega
      cases x.Kind == 2
      case true => simp only [cond_true, cond_false]; omega
      cases x.Kind == 3
      case true => simp only [cond_true, cond_false]; omega
      cases x.Kind == 4
      case true => exact putM_len _ _ _
      simp only [cond_false]
      cases lkM s.mo x.Motion with
      | none => simp only; omega
      | some t =>
        simp only
        cases x.Kind == 5
        · cases x.Kind == 6
          · simp only [cond_false]; omega
          · exact putM_len _ _ _
        · exact putM_len _ _ _
    · simp only; omega
  have key : ∀ (t : List Int) (s : Bk), (t.foldl (stepB l) s).mo.length ≤ s.mo.length + t.length := by
    intro t
    induction t with
    | nil => intro s; simp
    | cons z t ih =>
      intro s
      rw [List.foldl_cons, List.length_cons]
      have h1 := ih (stepB l s z)
      have h2 : (stepB l s z).mo.length ≤ s.mo.length + 1 := by
        unfold stepB
        split
        · exact step _ _ _
        · omega
      omega
  have := key (cntIx at_ 0 l) ⟨[], [], [], []⟩
  simp only [List.length_nil] at this
  unfold booksOf
  omega
theorem Open_spec (l : List TAct) (at_ : Int) : m_club_Open l at_ = some (if askF l at_ = 0 then ((sortK ((booksOf l at_).mo.map Prod.fst)).filter (openM (booksOf l at_).mo), 0) else ([], askF l at_)) := by
  unfold m_club_Open
  rw [checkedAt_spec, Option.bind_some]
  by_cases h : askF l at_ = 0
  · simp only [if_pos h, optB_some]
    rw [show ((0 : Int) != 0) = false from rfl, ifB_false]
    unfold bookT
    simp only
    rw [open_spec _ _ _ _ _ (Nat.le_trans (mo_len l at_ (askF_zero h).1.len) (by omega))]; rfl
  · simp only [if_neg h, optB_none]
    rw [show (askF l at_ != 0) = true by simpa using h, ifB_true]
theorem Missing_spec (l : List TAct) (k : ByteArray) (at_ : Int) (h : nameF l k at_ = 0) : m_club_Missing l k at_ = some (match lkM (booksOf l at_).mo k with
    | some t => if t.1 = true then ([], 8) else ((membersOf (booksOf l at_).st).filter fun x => !hasM t.2.1 x, 0)
    | none => ([], 8)) := by
  have hok := (askF_zero (nameF_zero h).1).1
  obtain ⟨-, hb⟩ := booksAt_spec l at_ hok.len
  have hml : (membersOf (booksOf l at_).st).length ≤ 2000 := by
    unfold membersOf
    refine Nat.le_trans (List.length_filter_le ..) ?_
    rw [sortK_len, List.length_map]; exact hb.len
  unfold m_club_Missing
  rw [named_spec, Option.bind_some]
  simp only [if_pos h, optB_some]
  rw [show ((0 : Int) != 0) = false from rfl, ifB_false]
  unfold bookT
  simp only
  rw [isOpen_spec, Option.bind_some, members_spec _ _ _ _ _ (hb.rows (by omega)) (Nat.le_trans hb.len (by omega))]
  simp only [Option.bind_some]
  unfold openM
  cases hl : lkM (booksOf l at_).mo k with
  | none => rfl
  | some t =>
    obtain ⟨t1, t2, t3⟩ := t
    cases t1
    · simp only [Bool.not_false, Bool.not_true, ifB_false, Bool.false_eq_true, if_false]
      rw [show m_slices_DeleteFunc_string_string__club_Missing_1 (membersOf (booksOf l at_).st) at_ (booksOf l at_).st (booksOf l at_).pd (booksOf l at_).mo (booksOf l at_).rf k = dfM ByteArray.empty (fun x => m_club_Missing_1 x at_ (booksOf l at_).st (booksOf l at_).pd (booksOf l at_).mo (booksOf l at_).rf k) (membersOf (booksOf l at_).st) from rfl]
      rw [dfM_spec _ _ (fun x => hasM t2 x) _ (by omega) (fun x _ => by unfold m_club_Missing_1; rw [hl]; rfl)]; rfl
    · rfl
theorem quorum_half : m_club_quorumFault ⟨1, 2⟩ = some 0 := by
  unfold m_club_quorumFault
  rw [loopM_step (show m_club_quorumFault_l1 (1, 2) = some (.nxt (2, 1)) by kernel_rfl), run_nxt, loopM_step (show m_club_quorumFault_l1 (2, 1) = some (.nxt (1, 0)) by kernel_rfl), run_nxt, loopM_step (show m_club_quorumFault_l1 (1, 0) = some (.brk (1, 0)) by kernel_rfl), run_brk]
  rfl
theorem enough_half (n o : Nat) (hn : n ≤ 1000000) (ho : o ≤ 1000000) : m_club_enough (n : Int) (o : Int) ⟨1, 2⟩ = some (decide (o ≤ 2 * n)) := by
  have wu : ∀ m : Nat, m ≤ 1000000 → IntKind.wrap .u64 (m : Int) = (m : Int) := fun m hm => by rw [IntKind.wrap_u64]; omega
  unfold m_club_enough m_bits_Mul64
  rw [wu n hn, wu o ho, show IntKind.wrap .u64 (2 : Int) = 2 from rfl, show IntKind.wrap .u64 (1 : Int) = 1 from rfl]
  rw [if_pos (by omega), if_pos (by omega)]
  simp only [Option.bind_some, Int.toNat_natCast, show (2 : Int).toNat = 2 from rfl, show (1 : Int).toNat = 1 from rfl]
  rw [show n * 2 / 18446744073709551616 = 0 by omega, show o * 1 / 18446744073709551616 = 0 by omega, show n * 2 % 18446744073709551616 = n * 2 by omega, show o * 1 % 18446744073709551616 = o by omega]
  rw [show decide (((0 : Nat) : Int) > ((0 : Nat) : Int)) = false from rfl, ifB_false, show (((0 : Nat) : Int) == ((0 : Nat) : Int)) = true from rfl, ifB_true]
  congr 1
  rw [decide_eq_decide]; omega
theorem count_votes (step : Nat → ByteArray → Int × Int → Option (Flow (Int × Int) (TTally × Int))) (v : List (ByteArray × Bool))
    (hs : ∀ i x u, step i x u = (ifB (hasM v x) (some (.inl ((lkM v x).getD false))) (some (.inl false)) : Option (Bool ⊕ (Flow (Int × Int) (TTally × Int)))).bind fun k50 => Sum.fin k50 fun u48 => ifB u48 (some (.nxt (w64 (u.1 + 1), u.2))) (ifB (hasM v x) (some (.nxt (u.1, w64 (u.2 + 1)))) (some (.nxt (u.1, u.2))))) (l : List ByteArray) (hl : l.length ≤ 2000) :
    ∃ a b : Nat, rangeM step 0 l (0, 0) = some (.brk ((a : Int), (b : Int))) ∧ a + b = (l.filter fun x => hasM v x).length := by
  obtain ⟨s, h1, a, b, rfl, h3⟩ := rangeM_invx step l (fun i s => ∃ a b : Nat, s = ((a : Int), (b : Int)) ∧ a + b = ((l.take i).filter fun x => hasM v x).length) (by
    rintro i x s hx ⟨a, b, rfl, hab⟩
    have hi := (List.getElem?_eq_some_iff.1 hx).1
    have hle : ((l.take i).filter fun x => hasM v x).length ≤ i := Nat.le_trans (List.length_filter_le ..) (by simp; omega)
    have e1 : (l.take (i + 1)).filter (fun x => hasM v x) = (l.take i).filter (fun x => hasM v x) ++ if hasM v x then [x] else [] := by
      rw [List.take_add_one, hx, List.filter_append]
      simp only [Option.toList_some, List.filter_cons, List.filter_nil]
    rw [hs, e1]
    cases hv : hasM v x
    · exact ⟨_, rfl, a, b, rfl, by simpa using hab⟩
    · cases hw : (lkM v x).getD false
      · refine ⟨_, rfl, a, b + 1, ?_, by simp; omega⟩
        simp only; rw [w64_id (by omega)]; rfl
      · refine ⟨_, rfl, a + 1, b, ?_, by simp; omega⟩
        simp only; rw [w64_id (by omega)]; rfl) (0, 0) ⟨0, 0, rfl, by simp⟩
  exact ⟨a, b, h1, by rw [List.take_length] at h3; exact h3⟩
theorem vote_spec (a : Int) (st : Stays) (pd : List (ByteArray × Int)) (mo : Mots) (rf : List Int) (k : ByteArray) (t : Motn) (hl : lkM mo k = some t) (hr : ∀ k, (rowOf st k).length ≤ 1000000) (hs : st.length ≤ 2000) (ht : t.2.2.length ≤ 2000) :
    ∃ y n : Nat, ∃ acc : Bool, m_club_books_vote a st pd mo rf k ⟨1, 2⟩ = some (⟨k, y, n, ((if t.1 = true then t.2.2 else membersOf st).length : Nat), t.1, acc⟩, 0) ∧
      y + n = ((if t.1 = true then t.2.2 else membersOf st).filter fun x => hasM t.2.1 x).length ∧ (acc = true → t.1 = true ∧ n < y ∧ (if t.1 = true then t.2.2 else membersOf st).length ≤ 2 * (y + n)) := by
  obtain ⟨t1, t2, t3⟩ := t
  have hml : (membersOf st).length ≤ 2000 := by
    unfold membersOf
    refine Nat.le_trans (List.length_filter_le ..) ?_
    rw [sortK_len, List.length_map]; exact hs
  unfold m_club_books_vote
  rw [hl, optB_some]
  cases t1
  · simp only [Bool.not_false, ifB_true, ifB_false, Bool.false_eq_true, if_false]
    rw [members_spec _ _ _ _ _ hr (by omega), Option.bind_some]
    obtain ⟨y, n, h1, h2⟩ := count_votes (m_club_books_vote_l1 (false, t2, t3)) t2 (fun i x u => rfl) (membersOf st) hml
    rw [h1, Option.bind_some, fin_brk]
    exact ⟨y, n, false, rfl, h2, fun h => by cases h⟩
  · simp only [Bool.not_true, ifB_true, ifB_false, if_true]
    obtain ⟨y, n, h1, h2⟩ := count_votes (m_club_books_vote_l2 (true, t2, t3)) t2 (fun i x u => rfl) t3 ht
    have hle := List.length_filter_le (fun x => hasM t2 x) t3
    simp only at ht
    rw [h1, Option.bind_some, fin_brk]
    by_cases hyn : n < y
    · rw [decide_eq_true (show (y : Int) > (n : Int) by omega), ifB_true, w64_id (by omega), show (y : Int) + (n : Int) = ((y + n : Nat) : Int) by omega, enough_half (y + n) t3.length (by omega) (by omega)]
      exact ⟨y, n, _, rfl, h2, fun h => ⟨trivial, hyn, of_decide_eq_true h⟩⟩
    · rw [decide_eq_false (show ¬ (y : Int) > (n : Int) by omega), ifB_false]
      exact ⟨y, n, false, rfl, h2, fun h => by cases h⟩
theorem filter_parts (p : ByteArray → Bool) (l : List ByteArray) : (l.filter p).length + (l.filter fun x => !p x).length = l.length := by
  induction l with
  | nil => rfl
  | cons x l ih => cases h : p x <;> simp [List.filter_cons, h] <;> omega
theorem votes_l1 (x : List TAct) (a q : Int) (q1 : Int) (k : ByteArray) (i : Nat) (h : askF x a = 0) (hk : isKey k = true) :
    m_gleekeep2_VotesAddUp_l1 (x, q1) (a, q) (membersOf (booksOf x a).st, 0) ((sortK ((booksOf x a).mo.map Prod.fst)).filter (openM (booksOf x a).mo), 0) i k () = some (.nxt ()) := by
  have hok := (askF_zero h).1
  obtain ⟨-, hb⟩ := booksAt_spec x a hok.len
  have hn : nameF x k a = 0 := by unfold nameF; rw [h, hk]; rfl
  have ho : m_slices_Contains_string_string ((sortK ((booksOf x a).mo.map Prod.fst)).filter (openM (booksOf x a).mo)) k = some (openM (booksOf x a).mo k) := by
    rw [ContainsS_spec]
    congr 1
    rw [Bool.eq_iff_iff, memB_iff, List.mem_filter]
    refine ⟨fun h => h.2, fun h => ⟨(sortK_perm _).symm.subset ?_, h⟩⟩
    obtain ⟨t, h1, -⟩ := openM_some h
    exact List.mem_map.2 ⟨(k, t), lkM_mem h1, rfl⟩
  have hml : (membersOf (booksOf x a).st).length ≤ 2000 := by
    unfold membersOf
    refine Nat.le_trans (List.length_filter_le ..) ?_
    rw [sortK_len, List.length_map]; exact hb.len
  unfold m_gleekeep2_VotesAddUp_l1 m_club_Vote
  simp only
  rw [named_spec, if_pos hn, Option.bind_some, quorum_half]
  simp only [optB_some, Option.bind_some]
  rw [show ((0 : Int) != 0) = false from rfl, ifB_false, ifB_false, Missing_spec x k a hn, ho]
  unfold bookT
  simp only
  cases hl : lkM (booksOf x a).mo k with
  | none =>
    have e1 : openM (booksOf x a).mo k = false := by unfold openM; rw [hl]
    have e2 : m_club_books_vote a (booksOf x a).st (booksOf x a).pd (booksOf x a).mo (booksOf x a).rf k ⟨1, 2⟩ = some (⟨ByteArray.empty, 0, 0, 0, false, false⟩, 8) := by
      unfold m_club_books_vote; rw [hl, optB_none]
    rw [e1, e2]; rfl
  | some t =>
    obtain ⟨y, n, acc, e2, e3, e4⟩ := vote_spec a (booksOf x a).st (booksOf x a).pd (booksOf x a).mo (booksOf x a).rf k t hl (hb.rows (by omega)) hb.len (books_mo x a hok.len k t hl)
    have ht := books_mo x a hok.len k t hl
    obtain ⟨t1, t2, t3⟩ := t
    rw [e2]
    cases t1
    · have e1 : openM (booksOf x a).mo k = true := by unfold openM; rw [hl]; rfl
      have hacc : acc = false := by cases acc with | false => rfl | true => exact absurd (e4 rfl).1 (by simp)
      subst hacc
      rw [e1]
      simp only [Bool.false_eq_true, if_false] at e3 ⊢
      have hp := filter_parts (fun z => hasM t2 z) (membersOf (booksOf x a).st)
      simp only [Option.bind_some]
      simp only [show ((0 : Int) != 0) = false from rfl, show ((0 : Int) == 0) = true from rfl, show ((true : Bool) == true) = true from rfl, show ((false : Bool) == true) = false from rfl, Bool.not_true, ifB_false, ifB_true, Option.bind_some, fin_inl]
      rw [w64_id (n := (y : Int) + (n : Int)) (by omega), w64_id (by omega)]
      rw [show (((y : Int) + (n : Int) + (((membersOf (booksOf x a).st).filter fun z => !hasM t2 z).length : Int)) != ((membersOf (booksOf x a).st).length : Int)) = false by
        rw [bne_eq_false_iff_eq]; omega, ifB_false, show (((membersOf (booksOf x a).st).length : Int) != ((membersOf (booksOf x a).st).length : Int)) = false by simp, ifB_false]
      rfl
    · have e1 : openM (booksOf x a).mo k = false := by unfold openM; rw [hl]; rfl
      rw [e1]
      simp only [if_true] at e3 e4 ⊢
      simp only [Option.bind_some]
      simp only [show ((0 : Int) != 0) = false from rfl, show ((0 : Int) == 0) = true from rfl, show ((8 : Int) == 0) = false from rfl, show ((false : Bool) == false) = true from rfl, show ((true : Bool) == false) = false from rfl, Bool.not_true, ifB_false, ifB_true, Option.bind_some, fin_inl]
      cases acc
      · rfl
      · obtain ⟨-, g1, g2⟩ := e4 rfl
        have hle := List.length_filter_le (fun z => hasM t2 z) t3
        simp only at ht
        rw [ifB_true, decide_eq_false (show ¬ (y : Int) ≤ (n : Int) by omega), ifB_false, w64_id (n := (y : Int) + (n : Int)) (by omega), w64_id (by omega), decide_eq_false (by omega)]
        rfl
theorem VotesAddUp_true (L : List Int) : m_gleekeep2_VotesAddUp L = some true := by
  unfold m_gleekeep2_VotesAddUp
  obtain ⟨n, h1, hn1, hn2⟩ := Range_spec L (p := 0) (a := 0) (b := 20) (by omega) (by omega) (by omega) (by omega) (by omega)
  rw [h1, Option.bind_some]
  obtain ⟨x, q, h2, hq1, hq2, hok, -, -⟩ := RightActs_spec L (p := 0 + 1) (n := n) (by omega) (by omega) hn1 (by omega)
  simp only
  rw [h2, Option.bind_some]
  obtain ⟨a, h3, ha1, ha2⟩ := Range_spec L (p := q) (a := 0) (b := 7776000000) hq1 (by omega) (by omega) (by omega) (by omega)
  simp only
  rw [h3, Option.bind_some]
  have ax := askF_of hok (show isAt a = true by unfold isAt inR; rw [decide_eq_true_eq]; omega)
  rw [Members_spec, if_pos ax, Open_spec, if_pos ax]
  simp only [Option.bind_some]
  rw [show m_gleekeep2_errs [0, 0] = some 0 by kernel_rfl, Option.bind_some, show ((0 : Int) != 0) = false from rfl, ifB_false]
  rw [rangeM_cons, votes_l1 x a _ _ _ 0 ax (by kernel_rfl), Option.bind_some, run_nxt, rangeM_cons, votes_l1 x a _ _ _ _ ax (by kernel_rfl), Option.bind_some, run_nxt, rangeM_nil, Option.bind_some, fin_brk, ready_true]
  rfl
end Go.G
