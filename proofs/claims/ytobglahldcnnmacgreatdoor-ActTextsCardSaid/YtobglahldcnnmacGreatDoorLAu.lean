/- LAu: acts as lines: read by the reference; the whole texts. In plain Lean, no program in sight. -/
import Derived.Test.YtobglahldcnnmacGreatDoorLT4
import Derived.Test.YtobglahldcnnmacGreatDoorLAt
namespace Go.G
open Go Go.J
set_option linter.unusedSimpArgs false
set_option linter.unusedVariables false
theorem app_split (c : UInt8) : ∀ (a w e d : BL), c ∉ a → c ∉ w → (a ++ c :: e = w ++ c :: d ↔ a = w ∧ e = d)
  | [], [], e, d, _, _ => by simp
  | [], y :: w, e, d, _, hw => by
    have : y ≠ c := fun h => hw (by rw [h]; exact List.mem_cons_self ..)
    simp [Ne.symm this]
  | x :: a, [], e, d, ha, _ => by
    have : x ≠ c := fun h => ha (by rw [h]; exact List.mem_cons_self ..)
    simp [this]
  | x :: a, y :: w, e, d, ha, hw => by
    have := app_split c a w e d (fun h => ha (List.mem_cons_of_mem _ h)) (fun h => hw (List.mem_cons_of_mem _ h))
    simp only [List.cons_append, List.cons.injEq, this]
    exact ⟨fun ⟨h1, h2, h3⟩ => ⟨⟨h1, h2⟩, h3⟩, fun ⟨⟨h1, h2⟩, h3⟩ => ⟨h1, h2, h3⟩⟩
theorem dig1 (m j : Nat) (hj : j < 10) : Lib.decDigits m = [UInt8.ofNat (48 + j)] ↔ m = j := by
  by_cases h : m < 10
  · rw [Lib.decDigits_one h]
    simp only [List.cons.injEq, and_true]
    refine ⟨fun e => ?_, fun e => by rw [e]⟩
    have := congrArg UInt8.toNat e
    simp only [UInt8.toNat_ofNat'] at this
    omega
  · refine ⟨fun e => ?_, fun e => by omega⟩
    rw [Lib.decDigits, dif_neg h] at e
    have h1 := List.length_pos_iff.2 (decDigits_ne (m / 10))
    have h2 := congrArg List.length e
    simp only [List.length_append, List.length_cons, List.length_nil] at h2
    omega
/-- the tests of a kind with so many words -/
theorem tag_eq (k : ByteArray) (hk : (32 : UInt8) ∉ k.data.toList) (w : BL) (hw : (32 : UInt8) ∉ w) (m j : Nat) (hj : j < 10) :
    ((k ++ toB [32] ++ toB (Lib.decDigits m)).toList == (toB (w ++ [32, UInt8.ofNat (48 + j)])).toList) = decide (k = toB w ∧ m = j) := by
  rw [ba_tl, decide_eq_decide, app_data, app_data, data_toB, data_toB, data_toB, List.append_assoc, show ([32] : BL) ++ Lib.decDigits m = 32 :: Lib.decDigits m from rfl, app_split 32 _ _ _ _ hk hw, dig1 m j hj]
  exact ⟨fun ⟨h1, h2⟩ => ⟨ba_ext h1, h2⟩, fun ⟨h1, h2⟩ => ⟨by rw [h1]; rfl, h2⟩⟩
def okR (s : ByteArray) (n a : Int) (i : Nat) (r : List ByteArray) (o : Option (TAct × Bool)) : Prop := ∃ d, o = some (d, (restK i s n a r).isSome) ∧ ∀ z, restK i s n a r = some z → TAct.mk s n a d.Kind d.Who d.Motion d.Cents d.Yes d.Of d.Other = z
theorem refNum (x : ByteArray) (hx : x.size ≤ 1000000) : ∃ n', m_gleeref2_Number x 15 = some (n', (numB x).isSome) ∧ ∀ n, numB x = some n → n' = n := (Number_spec x hx).2
theorem two_of {r : List ByteArray} (h : r.length + 1 = 3) : ∃ w c, r = [w, c] := by
  rcases r with _ | ⟨w, _ | ⟨c, _ | ⟨d, t⟩⟩⟩
  · simp at h
  · simp at h
  · exact ⟨w, c, rfl⟩
  · simp only [List.length_cons] at h; omega
theorem one_of {r : List ByteArray} (h : r.length + 1 = 2) : ∃ w, r = [w] := by
  rcases r with _ | ⟨w, _ | ⟨c, t⟩⟩
  · simp at h
  · exact ⟨w, rfl⟩
  · simp only [List.length_cons] at h; omega
theorem three_of {r : List ByteArray} (h : r.length + 1 = 4) : ∃ w c d, r = [w, c, d] := by
  rcases r with _ | ⟨w, _ | ⟨c, _ | ⟨d, _ | ⟨e, t⟩⟩⟩⟩
  · simp at h
  · simp at h
  · simp at h
  · exact ⟨w, c, d, rfl⟩
  · simp only [List.length_cons] at h; omega
theorem actIn_spec (s : ByteArray) (n a : Int) (k : ByteArray) (r : List ByteArray) (hk : (32 : UInt8) ∉ k.data.toList) (hks : k.size ≤ 1000000) (hr : ∀ w ∈ r, w.size ≤ 1000000) (hl : r.length ≤ 1000000) : okR s n a (idxN k) r (m_gleeref2_actIn (k :: r)) := by
  unfold m_gleeref2_actIn
  have hit : m_strconv_Itoa (((k :: r).length : Nat) : Int) = some (toB (Lib.decDigits (r.length + 1))) := by
    unfold m_strconv_Itoa
    rw [if_pos (by simp only [List.length_cons]; omega), List.length_cons, Lib.itoa_nonneg]; rfl
  have hid : (Lib.decDigits (r.length + 1)).length ≤ 21 := by
    have := Lib.itoa_length_le ((r.length + 1 : Nat) : Int) (by omega) (by omega)
    rwa [Lib.itoa_nonneg] at this
  rw [show getI (k :: r) 0 = some k from rfl, Option.bind_some, show (ByteArray.mk [32].toArray) = toB [32] from rfl, catM_of (by rw [toB_size]; simp; omega), Option.bind_some, hit, Option.bind_some, catM_of (by rw [ba_app, toB_size, toB_size]; simp; omega), Option.bind_some]
  have T1 := tag_eq k hk joinW (by decide) (r.length + 1) 3 (by decide)
  have T2 := tag_eq k hk quitW (by decide) (r.length + 1) 2 (by decide)
  have T3 := tag_eq k hk payW (by decide) (r.length + 1) 3 (by decide)
  have T4 := tag_eq k hk putW (by decide) (r.length + 1) 2 (by decide)
  have T5 := tag_eq k hk voteW (by decide) (r.length + 1) 4 (by decide)
  have T6 := tag_eq k hk endW (by decide) (r.length + 1) 2 (by decide)
  have T7 := tag_eq k hk undoW (by decide) (r.length + 1) 3 (by decide)
  rw [show (ByteArray.mk [106, 111, 105, 110, 32, 51].toArray) = toB (joinW ++ [32, UInt8.ofNat (48 + 3)]) from rfl, T1,
    show (ByteArray.mk [113, 117, 105, 116, 32, 50].toArray) = toB (quitW ++ [32, UInt8.ofNat (48 + 2)]) from rfl, T2,
    show (ByteArray.mk [112, 97, 121, 32, 51].toArray) = toB (payW ++ [32, UInt8.ofNat (48 + 3)]) from rfl, T3,
    show (ByteArray.mk [112, 117, 116, 32, 50].toArray) = toB (putW ++ [32, UInt8.ofNat (48 + 2)]) from rfl, T4,
    show (ByteArray.mk [118, 111, 116, 101, 32, 52].toArray) = toB (voteW ++ [32, UInt8.ofNat (48 + 4)]) from rfl, T5,
    show (ByteArray.mk [101, 110, 100, 32, 50].toArray) = toB (endW ++ [32, UInt8.ofNat (48 + 2)]) from rfl, T6,
    show (ByteArray.mk [117, 110, 100, 111, 32, 51].toArray) = toB (undoW ++ [32, UInt8.ofNat (48 + 3)]) from rfl, T7]
  clear T1 T2 T3 T4 T5 T6 T7
  have no : ∀ (i : Nat) (j : Nat), (∀ r', r'.length + 1 = j ∨ restK i s n a r' = none) → r.length + 1 ≠ j → okR s n a i r (some ((TAct.mk ByteArray.empty 0 0 0 ByteArray.empty ByteArray.empty 0 false ByteArray.empty 0), false)) := fun i j h hne => by
    have h1 := (h r).resolve_left hne
    unfold okR
    rw [h1]
    exact ⟨_, rfl, fun z hz => by cases hz⟩
  have l1 : ∀ r', r'.length + 1 = 3 ∨ restK 1 s n a r' = none := fun r' => by
    rcases r' with _ | ⟨w, _ | ⟨c, _ | ⟨d, t⟩⟩⟩ <;> first | exact .inl rfl | exact .inr rfl
  have l2 : ∀ r', r'.length + 1 = 2 ∨ restK 2 s n a r' = none := fun r' => by
    rcases r' with _ | ⟨w, _ | ⟨c, _ | ⟨d, t⟩⟩⟩ <;> first | exact .inl rfl | exact .inr rfl
  have l3 : ∀ r', r'.length + 1 = 3 ∨ restK 3 s n a r' = none := fun r' => by
    rcases r' with _ | ⟨w, _ | ⟨c, _ | ⟨d, t⟩⟩⟩ <;> first | exact .inl rfl | exact .inr rfl
  have l4 : ∀ r', r'.length + 1 = 2 ∨ restK 4 s n a r' = none := fun r' => by
    rcases r' with _ | ⟨w, _ | ⟨c, _ | ⟨d, t⟩⟩⟩ <;> first | exact .inl rfl | exact .inr rfl
  have l5 : ∀ r', r'.length + 1 = 4 ∨ restK 5 s n a r' = none := fun r' => by
    rcases r' with _ | ⟨w, _ | ⟨c, _ | ⟨d, _ | ⟨e, t⟩⟩⟩⟩ <;> first | exact .inl rfl | exact .inr rfl
  have l6 : ∀ r', r'.length + 1 = 2 ∨ restK 6 s n a r' = none := fun r' => by
    rcases r' with _ | ⟨w, _ | ⟨c, _ | ⟨d, t⟩⟩⟩ <;> first | exact .inl rfl | exact .inr rfl
  have l7 : ∀ r', r'.length + 1 = 3 ∨ restK 7 s n a r' = none := fun r' => by
    rcases r' with _ | ⟨w, _ | ⟨c, _ | ⟨d, t⟩⟩⟩ <;> first | exact .inl rfl | exact .inr rfl
  have F : ∀ (p q : Prop) [Decidable (p ∧ q)], ¬ p → decide (p ∧ q) = false := fun p q _ h => decide_eq_false fun x => h x.1
  by_cases h1 : k = toB joinW
  · subst h1
    rw [F (toB joinW = toB quitW) _ (by decide), F (toB joinW = toB payW) _ (by decide), F (toB joinW = toB putW) _ (by decide), F (toB joinW = toB voteW) _ (by decide), F (toB joinW = toB endW) _ (by decide), F (toB joinW = toB undoW) _ (by decide), show idxN (toB joinW) = 1 from rfl]
    simp only [ifB_false]
    by_cases hl : r.length + 1 = 3
    · rw [decide_eq_true ⟨trivial, hl⟩, ifB_true]
      obtain ⟨w, c, rfl⟩ := two_of hl
      obtain ⟨n', g1, g2⟩ := refNum c (hr c (by simp))
      rw [show getI [toB joinW, w, c] 1 = some w from rfl, show getI [toB joinW, w, c] 2 = some c from rfl, Option.bind_some, Option.bind_some, g1, Option.bind_some]
      refine ⟨_, by simp only [restK, Option.isSome_map]; rfl, fun z hz => ?_⟩
      obtain ⟨c', hc, rfl⟩ := Option.map_eq_some_iff.1 hz
      rw [g2 c' hc]
    · rw [decide_eq_false (fun x => hl x.2), ifB_false]; exact no 1 3 l1 hl
  by_cases h2 : k = toB quitW
  · subst h2
    rw [F (toB quitW = toB joinW) _ (by decide), F (toB quitW = toB payW) _ (by decide), F (toB quitW = toB putW) _ (by decide), F (toB quitW = toB voteW) _ (by decide), F (toB quitW = toB endW) _ (by decide), F (toB quitW = toB undoW) _ (by decide), show idxN (toB quitW) = 2 from rfl]
    simp only [ifB_false]
    by_cases hl : r.length + 1 = 2
    · rw [decide_eq_true ⟨trivial, hl⟩, ifB_true]
      obtain ⟨w, rfl⟩ := one_of hl
      exact ⟨_, rfl, fun z hz => by cases hz; rfl⟩
    · rw [decide_eq_false (fun x => hl x.2), ifB_false]; exact no 2 2 l2 hl
  by_cases h3 : k = toB payW
  · subst h3
    rw [F (toB payW = toB joinW) _ (by decide), F (toB payW = toB quitW) _ (by decide), F (toB payW = toB putW) _ (by decide), F (toB payW = toB voteW) _ (by decide), F (toB payW = toB endW) _ (by decide), F (toB payW = toB undoW) _ (by decide), show idxN (toB payW) = 3 from rfl]
    simp only [ifB_false]
    by_cases hl : r.length + 1 = 3
    · rw [decide_eq_true ⟨trivial, hl⟩, ifB_true]
      obtain ⟨w, c, rfl⟩ := two_of hl
      obtain ⟨n', g1, g2⟩ := refNum c (hr c (by simp))
      rw [show getI [toB payW, w, c] 1 = some w from rfl, show getI [toB payW, w, c] 2 = some c from rfl, Option.bind_some, Option.bind_some, g1, Option.bind_some]
      refine ⟨_, by simp only [restK, Option.isSome_map]; rfl, fun z hz => ?_⟩
      obtain ⟨c', hc, rfl⟩ := Option.map_eq_some_iff.1 hz
      rw [g2 c' hc]
    · rw [decide_eq_false (fun x => hl x.2), ifB_false]; exact no 3 3 l3 hl
  by_cases h4 : k = toB putW
  · subst h4
    rw [F (toB putW = toB joinW) _ (by decide), F (toB putW = toB quitW) _ (by decide), F (toB putW = toB payW) _ (by decide), F (toB putW = toB voteW) _ (by decide), F (toB putW = toB endW) _ (by decide), F (toB putW = toB undoW) _ (by decide), show idxN (toB putW) = 4 from rfl]
    simp only [ifB_false]
    by_cases hl : r.length + 1 = 2
    · rw [decide_eq_true ⟨trivial, hl⟩, ifB_true]
      obtain ⟨w, rfl⟩ := one_of hl
      exact ⟨_, rfl, fun z hz => by cases hz; rfl⟩
    · rw [decide_eq_false (fun x => hl x.2), ifB_false]; exact no 4 2 l4 hl
  by_cases h5 : k = toB voteW
  · subst h5
    rw [F (toB voteW = toB joinW) _ (by decide), F (toB voteW = toB quitW) _ (by decide), F (toB voteW = toB payW) _ (by decide), F (toB voteW = toB putW) _ (by decide), F (toB voteW = toB endW) _ (by decide), F (toB voteW = toB undoW) _ (by decide), show idxN (toB voteW) = 5 from rfl]
    simp only [ifB_false]
    by_cases hl : r.length + 1 = 4
    · rw [decide_eq_true ⟨trivial, hl⟩, ifB_true]
      obtain ⟨w, m, y, rfl⟩ := three_of hl
      have e1 : (y.toList == (ByteArray.mk [121, 101, 115].toArray).toList) = decide (y = toB yesW) := by
        rw [Bool.eq_iff_iff, beq_iff_eq, decide_eq_true_eq]; exact ba_toList_inj
      have e2 : (y.toList == (ByteArray.mk [110, 111].toArray).toList) = decide (y = toB noW) := by
        rw [Bool.eq_iff_iff, beq_iff_eq, decide_eq_true_eq]; exact ba_toList_inj
      rw [show getI [toB voteW, w, m, y] 1 = some w from rfl, show getI [toB voteW, w, m, y] 2 = some m from rfl, show getI [toB voteW, w, m, y] 3 = some y from rfl]
      simp only [Option.bind_some]
      rw [e1, e2]
      unfold okR
      simp only [restK]
      by_cases g1 : y = toB yesW
      · rw [decide_eq_true g1, if_pos g1]
        exact ⟨_, rfl, fun z hz => by cases hz; rfl⟩
      · rw [decide_eq_false g1, if_neg g1]
        by_cases g2 : y = toB noW
        · rw [decide_eq_true g2, if_pos g2]
          exact ⟨_, rfl, fun z hz => by cases hz; rfl⟩
        · rw [decide_eq_false g2, if_neg g2]
          exact ⟨_, rfl, fun z hz => by cases hz⟩
    · rw [decide_eq_false (fun x => hl x.2), ifB_false]; exact no 5 4 l5 hl
  by_cases h6 : k = toB endW
  · subst h6
    rw [F (toB endW = toB joinW) _ (by decide), F (toB endW = toB quitW) _ (by decide), F (toB endW = toB payW) _ (by decide), F (toB endW = toB putW) _ (by decide), F (toB endW = toB voteW) _ (by decide), F (toB endW = toB undoW) _ (by decide), show idxN (toB endW) = 6 from rfl]
    simp only [ifB_false]
    by_cases hl : r.length + 1 = 2
    · rw [decide_eq_true ⟨trivial, hl⟩, ifB_true]
      obtain ⟨w, rfl⟩ := one_of hl
      exact ⟨_, rfl, fun z hz => by cases hz; rfl⟩
    · rw [decide_eq_false (fun x => hl x.2), ifB_false]; exact no 6 2 l6 hl
  by_cases h7 : k = toB undoW
  · subst h7
    rw [F (toB undoW = toB joinW) _ (by decide), F (toB undoW = toB quitW) _ (by decide), F (toB undoW = toB payW) _ (by decide), F (toB undoW = toB putW) _ (by decide), F (toB undoW = toB voteW) _ (by decide), F (toB undoW = toB endW) _ (by decide), show idxN (toB undoW) = 7 from rfl]
    simp only [ifB_false]
    by_cases hl : r.length + 1 = 3
    · rw [decide_eq_true ⟨trivial, hl⟩, ifB_true]
      obtain ⟨w, c, rfl⟩ := two_of hl
      obtain ⟨n', g1, g2⟩ := refNum c (hr c (by simp))
      rw [show getI [toB undoW, w, c] 1 = some w from rfl, show getI [toB undoW, w, c] 2 = some c from rfl, Option.bind_some, Option.bind_some, g1, Option.bind_some]
      refine ⟨_, by simp only [restK, Option.isSome_map]; rfl, fun z hz => ?_⟩
      obtain ⟨c', hc, rfl⟩ := Option.map_eq_some_iff.1 hz
      rw [g2 c' hc]
    · rw [decide_eq_false (fun x => hl x.2), ifB_false]; exact no 7 3 l7 hl
  have e : idxN k = 0 := by unfold idxN; simp only [if_neg h1, if_neg h2, if_neg h3, if_neg h4, if_neg h5, if_neg h6, if_neg h7]
  rw [F _ _ h1, F _ _ h2, F _ _ h3, F _ _ h4, F _ _ h5, F _ _ h6, F _ _ h7, e]
  simp only [ifB_false]
  exact ⟨_, rfl, fun z hz => by cases hz⟩
theorem closure_spec (x : BL) (L : List TAct) (hx : x.length ≤ 200000) (hL : L.length ≤ 400000) : ∃ y, m_gleeref2_ActsRead_1 (toB x) L = some y ∧ y.1 = (actL x).isSome ∧ ∀ z, actL x = some z → y = (true, L ++ [z]) := by
  unfold m_gleeref2_ActsRead_1
  rw [refWords_spec _ (by rw [toB_size]; omega), Option.bind_some, data_toB]
  unfold actL
  by_cases hn : [] ∈ spl 32 x
  · rw [decide_eq_true hn, if_pos hn]
    exact ⟨_, rfl, rfl, fun z hz => by cases hz⟩
  rw [decide_eq_false hn, if_neg hn]
  simp only [Bool.not_true, Bool.not_false, ifB_false, Option.bind_some, fin_inl]
  have hsz : ∀ w ∈ (spl 32 x).map toB, w.size ≤ 1000000 := fun w hm => by
    obtain ⟨v, hv, rfl⟩ := List.mem_map.1 hm
    rw [toB_size]
    have := spl_size hv
    omega
  have h32 : ∀ w ∈ (spl 32 x).map toB, (32 : UInt8) ∉ w.data.toList := fun w hm => by
    obtain ⟨v, hv, rfl⟩ := List.mem_map.1 hm
    exact spl_mem 32 x v hv
  have hlen : ((spl 32 x).map toB).length ≤ 200001 := by
    rw [List.length_map]
    have := spl_len 32 x
    omega
  generalize (spl 32 x).map toB = W at hsz h32 hlen
  have short : W.length < 4 → wordsF W = none := fun h => by
    match W, h with
    | [], _ => rfl
    | [_], _ => rfl
    | [_, _], _ => rfl
    | [_, _, _], _ => rfl
  by_cases hl : W.length < 4
  · rw [short hl, decide_eq_true (by omega)]
    exact ⟨_, rfl, rfl, fun z hz => by cases hz⟩
  rw [decide_eq_false (by omega), ifB_false]
  rcases W with _ | ⟨s, _ | ⟨n, _ | ⟨a, _ | ⟨k, r⟩⟩⟩⟩
  · exact absurd (by simp) hl
  · exact absurd (by simp) hl
  · exact absurd (by simp) hl
  · exact absurd (by simp) hl
  ·
    have hn := hsz n (by simp)
    have ha := hsz a (by simp)
    have hr : ∀ w ∈ r, w.size ≤ 1000000 := fun w hw => hsz w (by simp [hw])
    simp only [List.length_cons] at hlen
    have e1 : sliceI (s :: n :: a :: k :: r) 1 3 = some [n, a] := by
      rw [sliceI_of (lo := 1) (a := 1) (hi := 3) (b := 3) rfl rfl (by omega) (by simp)]; rfl
    have e2 : sliceI (s :: n :: a :: k :: r) 3 ((s :: n :: a :: k :: r).length : Int) = some (k :: r) := by
      rw [sliceI_of (lo := 3) (a := 3) (b := (s :: n :: a :: k :: r).length) rfl rfl (by simp) (Nat.le_refl _)]
      simp
    obtain ⟨ns, g1, g2, g3⟩ := numsIn_spec [n, a] (fun z hz => by
      simp only [List.mem_cons, List.not_mem_nil, or_false] at hz
      rcases hz with rfl | rfl
      · exact hn
      · exact ha) (by simp)
    obtain ⟨n', a', rfl⟩ : ∃ n' a', ns = [n', a'] := by
      match ns, g2 with
      | [p, q], _ => exact ⟨p, q, rfl⟩
    obtain ⟨d, g4, g5⟩ := actIn_spec s n' a' k r (h32 k (by simp)) (hsz k (by simp)) hr (by omega)
    rw [e1, Option.bind_some, g1, Option.bind_some, e2, Option.bind_some, g4, Option.bind_some, show getI (s :: n :: a :: k :: r) 0 = some s from rfl, Option.bind_some, show getI [n', a'] 0 = some n' from rfl, Option.bind_some, show getI [n', a'] 1 = some a' from rfl, Option.bind_some, appM_of (by simp; omega) (by omega), Option.bind_some]
    simp only [wordsF]
    rw [allN_cons, allN_cons] at g1 g3
    cases hnn : numB n with
    | none => exact ⟨_, by simp only [hnn, allN_cons]; rfl, rfl, fun z hz => by cases hz⟩
    | some n2 =>
      cases haa : numB a with
      | none => exact ⟨_, by simp only [hnn, haa, allN_cons]; rfl, rfl, fun z hz => by cases hz⟩
      | some a2 =>
        have := g3 [n2, a2] (by rw [hnn, haa]; rfl)
        injection this with q1 q2
        injection q2 with q2 q3
        subst q1 q2
        refine ⟨_, by simp only [allN_cons, hnn, haa]; rfl, rfl, fun z hz => ?_⟩
        have hz' : restK (idxN k) s n' a' r = some z := hz
        rw [hz', g5 z hz']; rfl
end Go.G
