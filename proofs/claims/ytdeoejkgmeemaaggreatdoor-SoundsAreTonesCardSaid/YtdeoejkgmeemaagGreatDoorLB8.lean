/- LB8: how often bars are played; what is left without blanks; lyrics. In plain Lean, no program in sight. -/
import Derived.Test.YtdeoejkgmeemaagGreatDoorLB6
import Derived.Lib.ReplaceLaws
namespace Go.G
open Go Go.J
set_option linter.unusedSimpArgs false
/-! ### how often -/
def szG (gs : List Grp) : Nat := (gs.map fun g => g.2.1 - g.1).sum
theorem gsB_size : ∀ (t : List TBar) (i : Nat) (o : Option Nat), (∀ s, o = some s → s ≤ i) → szG (gsB o i t) ≤ t.length + (match o with | some s => i - s | none => 0)
  | [], i, o, _ => by
    have : szG (gsB o i []) = 0 := by cases o <;> rfl
    rw [this]; exact Nat.zero_le _
  | x :: t, i, o, ho => by
    unfold gsB
    cases hop : x.Open with
    | true =>
      simp only [cond_true]
      by_cases hc : x.Close > 0
      · rw [if_pos hc]
        have ih := gsB_size t (i + 1) none (fun s h => by cases h)
        show (i + 1 - i) + szG (gsB none (i + 1) t) ≤ _
        simp only [List.length_cons] at ih ⊢
        omega
      · rw [if_neg hc]
        have ih := gsB_size t (i + 1) (some i) (fun s h => by cases h; omega)
        simp only [List.length_cons] at ih ⊢
        omega
    | false =>
      simp only [cond_false]
      cases o with
      | none =>
        have ih := gsB_size t (i + 1) none (fun s h => by cases h)
        show (i + 1 - i) + szG (gsB none (i + 1) t) ≤ _
        simp only [List.length_cons] at ih ⊢
        omega
      | some s =>
        have hs := ho s rfl
        simp only
        by_cases hc : x.Close > 0
        · rw [if_pos hc]
          have ih := gsB_size t (i + 1) none (fun s h => by cases h)
          show (i + 1 - s) + szG (gsB none (i + 1) t) ≤ _
          simp only [List.length_cons] at ih ⊢
          omega
        · rw [if_neg hc]
          have ih := gsB_size t (i + 1) (some s) (fun s' h => by cases h; omega)
          simp only [List.length_cons] at ih ⊢
          omega
theorem expand_size (bs : List TBar) : ∀ (gs : List Grp), (∀ g ∈ gs, g.2.2 ≤ 9) → (expand bs gs).length ≤ 9 * szG gs
  | [], _ => Nat.zero_le _
  | g :: gs, h => by
    have ih := expand_size bs gs fun x hx => h x (List.mem_cons_of_mem _ hx)
    have h1 := passes_len bs g.1 (g.2.1 - g.1) g.2.2.toNat 1
    have h2 := h g (List.mem_cons_self ..)
    have h3 : g.2.2.toNat * (g.2.1 - g.1) ≤ 9 * (g.2.1 - g.1) := Nat.mul_le_mul_right _ (by omega)
    have e : szG (g :: gs) = (g.2.1 - g.1) + szG gs := rfl
    rw [e]
    show (passes bs g.1 (g.2.1 - g.1) g.2.2.toNat 1 ++ expand bs gs).length ≤ _
    rw [List.length_append]
    omega
/-! ### without blanks -/
theorem idx_split (c : UInt8) : ∀ s : List UInt8, (Lib.index s [c] = -1 ∧ c ∉ s) ∨ ∃ a t, s = a ++ c :: t ∧ c ∉ a ∧ Lib.index s [c] = (a.length : Int)
  | [] => .inl ⟨rfl, by simp⟩
  | b :: s => by
    have e : Lib.index (b :: s) [c] = if ([c].isPrefixOf (b :: s)) = true then 0 else if (Lib.index s [c] == -1) = true then -1 else Lib.index s [c] + 1 := rfl
    have ep : ([c].isPrefixOf (b :: s)) = (c == b) := by simp [List.isPrefixOf]
    rw [e, ep]
    by_cases h : c = b
    · subst h
      right
      exact ⟨[], s, rfl, by simp, by simp⟩
    · have hb : (c == b) = false := by simpa using h
      rw [hb, if_neg (by simp)]
      rcases idx_split c s with ⟨h1, h2⟩ | ⟨a, t, h1, h2, h3⟩
      · left
        rw [h1]
        exact ⟨rfl, by simp [h, h2]⟩
      · right
        refine ⟨b :: a, t, by rw [h1]; rfl, by simp [h, h2], ?_⟩
        rw [h3, if_neg (by simp)]
        simp
theorem blank_out (c : UInt8) : ∀ (n : Nat) (s : List UInt8), s.length ≤ n → (∀ f, s.length < f → Lib.countFrom [c] f s = s.count c) ∧ Lib.replaceK [c] [] (s.count c) s = s.filter (fun b => !(b == c)) := by
  intro n
  induction n with
  | zero =>
    intro s hs
    have : s = [] := List.eq_nil_of_length_eq_zero (by omega)
    subst this
    refine ⟨fun f hf => ?_, rfl⟩
    cases f with
    | zero => simp at hf
    | succ f => rfl
  | succ n ih =>
    intro s hs
    rcases idx_split c s with ⟨h1, h2⟩ | ⟨a, t, rfl, h2, h3⟩
    · have hc : s.count c = 0 := List.count_eq_zero.2 h2
      refine ⟨fun f hf => ?_, ?_⟩
      · rw [hc]
        cases f with
        | zero => rfl
        | succ f =>
          show (if Lib.index s [c] == -1 then 0 else _) = 0
          rw [h1]; rfl
      · rw [hc]
        show s = _
        refine (List.filter_eq_self.2 fun b hb => ?_).symm
        have : b ≠ c := fun e => h2 (e ▸ hb)
        simpa using this
    · have ha : a.count c = 0 := List.count_eq_zero.2 h2
      have hc : (a ++ c :: t).count c = t.count c + 1 := by rw [List.count_append, ha, List.count_cons_self]; omega
      simp only [List.length_append, List.length_cons] at hs
      obtain ⟨i1, i2⟩ := ih t (by omega)
      have hd : (a ++ c :: t).drop (a.length + 1) = t := by simp
      refine ⟨fun f hf => ?_, ?_⟩
      · simp only [List.length_append, List.length_cons] at hf
        cases f with
        | zero => omega
        | succ f =>
          show (if Lib.index (a ++ c :: t) [c] == -1 then 0 else 1 + Lib.countFrom [c] f ((a ++ c :: t).drop ((Lib.index (a ++ c :: t) [c]).toNat + 1))) = _
          rw [h3, if_neg (by simp), Int.toNat_natCast, hd, i1 f (by omega), hc]
          omega
      · rw [hc, Lib.replaceK_hit [c] [] _ _ a.length h3]
        show _ ++ [] ++ Lib.replaceK [c] [] (t.count c) ((a ++ c :: t).drop (a.length + 1)) = _
        rw [hd, i2]
        have hfa : a.filter (fun b => !(b == c)) = a := List.filter_eq_self.2 fun b hb => by
          have : b ≠ c := fun e => h2 (e ▸ hb)
          simpa using this
        rw [List.filter_append, hfa, List.filter_cons_of_neg (by simp)]
        simp
/-- bytes that are not blank -/
def nb (s : ByteArray) : Nat := (s.data.toList.filter fun b => !(b == 32)).length
theorem nb_app (a b : ByteArray) : nb (a ++ b) = nb a + nb b := by
  unfold nb
  have : (a ++ b).data.toList = a.data.toList ++ b.data.toList := by simp
  rw [this, List.filter_append, List.length_append]
theorem ReplaceAll_nb (w : ByteArray) (hw : w.size ≤ 1000000) : ∃ r, m_strings_ReplaceAll w (ByteArray.mk [32].toArray) ByteArray.empty = some r ∧ r.size = nb w := by
  unfold m_strings_ReplaceAll
  rw [if_pos ⟨by omega, by decide, by
    have : (ByteArray.empty).size = 0 := rfl
    rw [this, Nat.mul_zero]; omega⟩]
  refine ⟨_, rfl, ?_⟩
  have e1 : (ByteArray.mk [32].toArray).data.toList = [32] := rfl
  have e2 : ByteArray.empty.data.toList = [] := rfl
  rw [e1, e2]
  obtain ⟨i1, i2⟩ := blank_out 32 _ w.data.toList (Nat.le_refl _)
  have hcnt : Lib.count w.data.toList [32] = w.data.toList.count 32 := i1 _ (Nat.lt_succ_self _)
  have e3 : Lib.replaceAll w.data.toList [32] [] = w.data.toList.filter (fun b => !(b == 32)) := by
    unfold Lib.replaceAll Lib.replace Lib.replaceNum
    rw [if_neg (by decide), if_pos (.inl (by decide)), hcnt, i2]
  rw [e3]
  show (w.data.toList.filter _).toArray.size = _
  simp [nb]
/-! ### lyrics -/
abbrev dashB : ByteArray := ByteArray.mk [45].toArray
theorem cut_ok {s : ByteArray} (h : s ∈ txs) : ∃ w b, m_strings_CutSuffix s (ByteArray.mk [45].toArray) = some (w, b) ∧ m_strings_TrimSuffix s (ByteArray.mk [45].toArray) = some w ∧ w.size ≤ 3 ∧ nb w = w.size ∧ (s = ByteArray.empty → w.size = 0) := by
  simp only [txs, List.mem_cons, List.not_mem_nil, or_false] at h
  rcases h with rfl | rfl | rfl | rfl | rfl | rfl | rfl
  · exact ⟨ByteArray.empty, false, by kernel_rfl, by kernel_rfl, by decide, by decide, fun _ => rfl⟩
  · exact ⟨ByteArray.empty, false, by kernel_rfl, by kernel_rfl, by decide, by decide, fun _ => rfl⟩
  · exact ⟨ByteArray.mk [97].toArray, false, by kernel_rfl, by kernel_rfl, by decide, by decide, fun h => absurd (congrArg ByteArray.size h) (by decide)⟩
  · exact ⟨ByteArray.mk [71, 108, 111].toArray, true, by kernel_rfl, by kernel_rfl, by decide, by decide, fun h => absurd (congrArg ByteArray.size h) (by decide)⟩
  · exact ⟨ByteArray.mk [114, 105].toArray, true, by kernel_rfl, by kernel_rfl, by decide, by decide, fun h => absurd (congrArg ByteArray.size h) (by decide)⟩
  · exact ⟨ByteArray.mk [195, 169].toArray, false, by kernel_rfl, by kernel_rfl, by decide, by decide, fun h => absurd (congrArg ByteArray.size h) (by decide)⟩
  · exact ⟨ByteArray.empty, true, by kernel_rfl, by kernel_rfl, by decide, by decide, fun _ => rfl⟩
/-- the lyrics' bytes and the row's count -/
theorem lyr_loop : ∀ (p : List TTone) (i j : Nat) (sep w : ByteArray) (n : Int), (∀ x ∈ p, x.Text ∈ txs) → sep.size ≤ 1 → nb sep = 0 → (nb w : Int) = n → w.size + 4 * p.length ≤ 1000000 →
    ∃ sep' w', rangeM m_piece_Lyrics_l1 i p (sep, w) = some (.brk (sep', w')) ∧ rangeM m_gleekeep2_SoundsAreTones_l1 j p n = some (.brk (nb w' : Int)) ∧ w'.size ≤ w.size + 4 * p.length
  | [], i, j, sep, w, n, _, _, _, hn, _ => ⟨sep, w, rfl, by rw [hn]; rfl, by simp⟩
  | x :: p, i, j, sep, w, n, ht, hs, hs0, hn, hb => by
    have ht' : ∀ y ∈ p, y.Text ∈ txs := fun y hy => ht y (List.mem_cons_of_mem _ hy)
    obtain ⟨c, b, c1, c2, c3, c4, c5⟩ := cut_ok (ht x (List.mem_cons_self ..))
    simp only [List.length_cons] at hb
    have hnw : nb w ≤ w.size := by
      have h1 : (w.data.toList.filter fun b => !(b == 32)).length ≤ w.data.toList.length := List.length_filter_le _ _
      unfold nb
      simpa using h1
    have e2 : m_gleekeep2_SoundsAreTones_l1 j x n = some (.nxt (n + (c.size : Int))) := by
      unfold m_gleekeep2_SoundsAreTones_l1
      rw [c2, Option.bind_some, w64_id (by omega)]
    rw [rangeM_cons, rangeM_cons, e2, Option.bind_some, run_nxt]
    by_cases he : x.Text = ByteArray.empty
    · have e1 : m_piece_Lyrics_l1 i x (sep, w) = some (.nxt (sep, w)) := by
        unfold m_piece_Lyrics_l1
        rw [show (x.Text.toList == ByteArray.empty.toList) = true by rw [he]; simp, ifB_true]
      rw [e1, Option.bind_some, run_nxt, c5 he]
      obtain ⟨sep', w', g1, g2, g3⟩ := lyr_loop p (i + 1) (j + 1) sep w (n + ((0 : Nat) : Int)) ht' hs hs0 (by omega) (by omega)
      exact ⟨sep', w', g1, g2, by simp only [List.length_cons]; omega⟩
    · have hsz : (sep ++ c).size = sep.size + c.size := by simp
      have hsz2 : (w ++ (sep ++ c)).size = w.size + (sep.size + c.size) := by simp
      have hnb : nb (w ++ (sep ++ c)) = nb w + c.size := by rw [nb_app, nb_app, hs0, c4]; omega
      have e1 : m_piece_Lyrics_l1 i x (sep, w) = some (.nxt ((if b = true then ByteArray.empty else ByteArray.mk [32].toArray), w ++ (sep ++ c))) := by
        unfold m_piece_Lyrics_l1 catM m_bWriteString
        rw [show (x.Text.toList == ByteArray.empty.toList) = false by rw [beq_eq_false_iff_ne]; exact fun h => he (ba_toList_inj.1 h), ifB_false, c1, Option.bind_some]
        simp only
        rw [if_pos (by omega), Option.bind_some, if_pos (by omega), Option.bind_some]
        cases b <;> rfl
      rw [e1, Option.bind_some, run_nxt]
      obtain ⟨sep', w', g1, g2, g3⟩ := lyr_loop p (i + 1) (j + 1) (if b = true then ByteArray.empty else ByteArray.mk [32].toArray) (w ++ (sep ++ c)) (n + (c.size : Int)) ht' (by cases b <;> decide) (by cases b <;> decide) (by rw [hnb]; omega) (by omega)
      exact ⟨sep', w', g1, g2, by simp only [List.length_cons]; omega⟩
end Go.G
