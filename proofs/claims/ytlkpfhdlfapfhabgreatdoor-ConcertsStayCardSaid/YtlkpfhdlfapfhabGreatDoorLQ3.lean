/- LQ3: the fullest choice within a time. In plain Lean, no program in sight. -/
import Derived.Test.YtlkpfhdlfapfhabGreatDoorLE0
namespace Go.G
open Go Go.J
theorem bit_spec (i k : Nat) (hi : i < 4294967296) (hk : k ≤ 60) : ∃ z, shrM (i : Int) (k : Int) = some z ∧ ((andI z 1) == 1) = i.testBit k := by
  refine ⟨((i / 2 ^ k : Nat) : Int), ?_, ?_⟩
  · unfold shrM
    rw [if_neg (by omega), show (min (k : Int).toNat 64) = k by omega]
    congr 1
    rw [show ((2 : Int) ^ k) = ((2 ^ k : Nat) : Int) by simp, Int.fdiv_eq_ediv_of_nonneg _ (Int.natCast_nonneg _)]; rfl
  · have hlt : i / 2 ^ k < 4294967296 := Nat.lt_of_le_of_lt (Nat.div_le_self _ _) hi
    generalize hm : i / 2 ^ k = m at hlt
    have e1 : andI (m : Int) 1 = ((m % 2 : Nat) : Int) := by
      unfold andI
      have e2 : (BitVec.ofInt 64 (m : Int) &&& BitVec.ofInt 64 1).toNat = m % 2 := by
        rw [BitVec.toNat_and]
        have e3 : (BitVec.ofInt 64 (m : Int)).toNat = m := by
          rw [BitVec.toNat_ofInt]; omega
        have e4 : (BitVec.ofInt 64 1).toNat = 1 := by decide
        rw [e3, e4, Nat.and_one_is_mod]
      rw [e2, w64_id (by omega)]
    rw [e1, Nat.testBit_eq_decide_div_mod_eq, hm]
    by_cases h : m % 2 = 1
    · simp [h]
    · have : m % 2 = 0 := by omega
      simp [this]
def chI (m : Nat) : Nat → List TItem → List TItem
  | _, [] => []
  | k, x :: t => if m.testBit k = true then x :: chI m (k + 1) t else chI m (k + 1) t
def chX (m : Nat) : Nat → List TItem → List Int
  | _, [] => []
  | k, _ :: t => if m.testBit k = true then (k : Int) :: chX m (k + 1) t else chX m (k + 1) t
theorem chI_sub (m : Nat) : ∀ (l : List TItem) (k : Nat), List.Sublist (chI m k l) l
  | [], _ => List.Sublist.refl _
  | x :: l, k => by
    unfold chI
    split
    · exact List.Sublist.cons_cons x (chI_sub m l (k + 1))
    · exact List.Sublist.cons x (chI_sub m l (k + 1))
theorem chX_len (m : Nat) : ∀ (l : List TItem) (k : Nat), (chX m k l).length = (chI m k l).length
  | [], _ => rfl
  | x :: l, k => by
    unfold chI chX
    split
    · simp [chX_len m l (k + 1)]
    · exact chX_len m l (k + 1)
theorem ch_loop (m : Nat) (hm : m < 4294967296) : ∀ (l : List TItem) (k : Nat) (a : List TItem) (b : List Int), k + l.length ≤ 60 → a.length ≤ k → b.length ≤ k →
    rangeM (m_concert_Fitting_l2 m) k l (a, b) = some (.brk (a ++ chI m k l, b ++ chX m k l)) := by
  intro l
  induction l with
  | nil => intro k a b _ _ _; simp [chI, chX]
  | cons x l ih =>
    intro k a b h1 h2 h3
    simp only [List.length_cons] at h1
    have hstep : m_concert_Fitting_l2 m k x (a, b) = some (.nxt (if m.testBit k = true then (a ++ [x], b ++ [(k : Int)]) else (a, b))) := by
      unfold m_concert_Fitting_l2
      obtain ⟨z, hz, hb⟩ := bit_spec m k hm (by omega)
      rw [hz, Option.bind_some, hb]
      cases ht : m.testBit k with
      | true =>
        rw [ifB_true, appM_of (by simp; omega) (by omega), Option.bind_some, appM_of (by simp; omega) (by omega), Option.bind_some, if_pos rfl]
      | false => rw [ifB_false, if_neg (by simp)]
    rw [rangeM_cons, hstep, Option.bind_some, run_nxt]
    unfold chI chX
    cases ht : m.testBit k with
    | true =>
      rw [if_pos rfl, if_pos rfl, if_pos rfl, ih (k + 1) _ _ (by omega) (by simp; omega) (by simp; omega)]
      simp
    | false =>
      rw [if_neg (by simp), if_neg (by simp), if_neg (by simp), ih (k + 1) _ _ (by omega) (by omega) (by omega)]
/-- how long a choice is -/
def lgM (p : TProgram) (m : Nat) : Int := bg ⟨chI m 0 p.Items, p.Change, p.Clap, p.Break, -1⟩ (chI m 0 p.Items).length
theorem rangeM_post {α σ ρ : Type} (step : Nat → α → σ → Option (Flow σ ρ)) (xs : List α) (I : Nat → σ → Prop) (Q : Flow σ ρ → Prop)
    (h : ∀ i x s, xs[i]? = some x → I i s → ∃ f, step i x s = some f ∧ (∀ s', f = .nxt s' → I (i + 1) s') ∧ (∀ s', f = .brk s' → Q (.brk s')) ∧ ∀ v, f = .ret v → Q (.ret v))
    (he : ∀ s, I xs.length s → Q (.brk s)) (s : σ) (h0 : I 0 s) : ∃ f, rangeM step 0 xs s = some f ∧ Q f := by
  have key : ∀ (t : List α) (i : Nat) (s : σ), xs.drop i = t → i + t.length = xs.length → I i s → ∃ f, rangeM step i t s = some f ∧ Q f := by
    intro t
    induction t with
    | nil => intro i s _ hl hs; exact ⟨.brk s, rfl, he s (by simpa using hl ▸ hs)⟩
    | cons x t ih =>
      intro i s hd hl hs
      have hx : xs[i]? = some x := by
        have : (xs.drop i)[0]? = some x := by rw [hd]; rfl
        simpa using this
      obtain ⟨f, h1, h2, h3, h4⟩ := h i x s hx hs
      have hd' : xs.drop (i + 1) = t := by rw [← List.drop_drop, hd]; rfl
      rw [rangeM_cons, h1]
      cases f with
      | nxt s' => exact ih (i + 1) s' hd' (by simp at hl; omega) (h2 s' rfl)
      | brk s' => exact ⟨_, rfl, h3 s' rfl⟩
      | ret v => exact ⟨_, rfl, h4 v rfl⟩
  exact key xs 0 s rfl (by simp) h0
theorem Compare_total (a b : List Int) : ∃ c, m_slices_Compare_int_int a b = some c := by
  unfold m_slices_Compare_int_int
  obtain ⟨f, h, hq⟩ := rangeM_post (m_slices_Compare_int_int_l1 b) a (fun _ _ => True) (fun f => match f with | .nxt _ => False | _ => True) (by
    intro i x s hx _
    unfold m_slices_Compare_int_int_l1
    by_cases h0 : (i : Int) ≥ (b.length : Int)
    · rw [decide_eq_true h0, ifB_true]
      exact ⟨_, rfl, by simp, by simp, by simp⟩
    · rw [decide_eq_false h0, ifB_false, getI_nat, List.getElem?_eq_getElem (by omega), Option.bind_some]
      unfold m_cmp_Compare_int m_cmp_isNaN_int
      have e1 : ∀ z : Int, (z != z) = false := by simp
      rw [Option.bind_some, Option.bind_some, e1, e1, ifB_false, ifB_false]
      by_cases h1 : x < b[i]
      · rw [decide_eq_true h1]
        exact ⟨_, rfl, by simp, by simp, by simp⟩
      · by_cases h2 : x > b[i]
        · rw [decide_eq_false h1, decide_eq_true h2]
          exact ⟨_, rfl, by simp, by simp, by simp⟩
        · rw [decide_eq_false h1, decide_eq_false h2]
          exact ⟨_, rfl, by simp, by simp, by simp⟩) (fun _ _ => trivial) () trivial
  rw [h, Option.bind_some]
  cases f with
  | nxt s => exact hq.elim
  | brk s =>
    rw [fin_brk]
    cases decide ((a.length : Int) < (b.length : Int)) with
    | true => exact ⟨_, rfl⟩
    | false => exact ⟨_, rfl⟩
  | ret v => exact ⟨v, rfl⟩
theorem Fitting_best {p : TProgram} (h : GoodP p) (hl : p.Items.length ≤ 5) {t : Int} (h0 : 0 ≤ t) (h1 : t ≤ 5184000000) :
    ∃ m, m_concert_Fitting p t = some ((chI m 0 p.Items).map (·.Key), 0) ∧ lgM p m ≤ t ∧ ∀ j, j < 2 ^ p.Items.length → lgM p j ≤ t → (chI j 0 p.Items).length ≤ (chI m 0 p.Items).length := by
  unfold m_concert_Fitting
  rw [CheckProgram_zero h, Option.bind_some, show ((0 : Int) != 0) = false from rfl, ifB_false, decide_eq_false (by omega), ifB_false, Outside_spec, Option.bind_some, decide_eq_true ⟨h0, h1⟩, Bool.not_true, ifB_false]
  have h2n : 2 ^ p.Items.length ≤ 32 := by
    have : 2 ^ p.Items.length ≤ 2 ^ 5 := Nat.pow_le_pow_right (by omega) hl
    simpa using this
  have h2a : (0 : Int) ≤ ((2 ^ p.Items.length : Nat) : Int) := Int.natCast_nonneg _
  have h2b : ((2 ^ p.Items.length : Nat) : Int) ≤ 32 := Int.ofNat_le.2 h2n
  have hz : shlM 1 (p.Items.length : Int) = some ((2 ^ p.Items.length : Nat) : Int) := by
    unfold shlM
    rw [if_neg (by omega), show (min (p.Items.length : Int).toNat 64) = p.Items.length by omega, Int.one_mul, show ((2 : Int) ^ p.Items.length) = ((2 ^ p.Items.length : Nat) : Int) by simp, w64_id ⟨Int.le_trans (by decide) h2a, Int.le_trans h2b (by decide)⟩]
  rw [hz, Option.bind_some, rangeI_of (Int.le_trans h2b (by decide)), Option.bind_some, Int.toNat_natCast]
  have hok : ∀ m, ProgOK ⟨chI m 0 p.Items, p.Change, p.Clap, p.Break, -1⟩ := fun m => (h.sub (chI_sub m p.Items 0)).ok
  have hlg : ∀ m, m_concert_longOf p (chI m 0 p.Items) = some (lgM p m) := fun m => by
    unfold m_concert_longOf
    rw [begins_spec (hok m)]; rfl
  obtain ⟨⟨lg, best⟩, g1, m, rfl, g3, g4⟩ := rangeM_invx (m_concert_Fitting_l1 p t) (List.range (2 ^ p.Items.length)) (fun i s => ∃ m, s.2 = chX m 0 p.Items ∧ lgM p m ≤ t ∧ ∀ j, j < i → lgM p j ≤ t → (chI j 0 p.Items).length ≤ (chI m 0 p.Items).length) (by
    rintro i x ⟨lg, best⟩ hx ⟨m, g2, g3, g4⟩
    simp only at g2
    subst g2
    have hi := (List.getElem?_eq_some_iff.1 hx).1
    rw [List.length_range] at hi
    have hin : i < 4294967296 := by omega
    unfold m_concert_Fitting_l1
    rw [ch_loop i hin p.Items 0 [] [] (by omega) (by simp) (by simp), Option.bind_some, fin_brk]
    simp only [List.nil_append]
    rw [hlg, Option.bind_some]
    have l1 := (chI_sub i p.Items 0).length_le
    have l2 := (chI_sub m p.Items 0).length_le
    simp only [chX_len]
    rw [w64_id (n := ((chI i 0 p.Items).length : Int) - ((chI m 0 p.Items).length : Int)) (by omega)]
    have hnew : ∀ j, j < i + 1 → lgM p j ≤ t → (lgM p i ≤ t → (chI m 0 p.Items).length ≤ (chI i 0 p.Items).length) → lgM p i ≤ t → (chI j 0 p.Items).length ≤ (chI i 0 p.Items).length := by
      intro j hj hjl hh hil
      by_cases e : j = i
      · subst e; exact Nat.le_refl _
      · exact Nat.le_trans (g4 j (by omega) hjl) (hh hil)
    have hold : ∀ j, j < i + 1 → lgM p j ≤ t → (lgM p i ≤ t → (chI i 0 p.Items).length ≤ (chI m 0 p.Items).length) → (chI j 0 p.Items).length ≤ (chI m 0 p.Items).length := by
      intro j hj hjl hh
      by_cases e : j = i
      · subst e; exact hh hjl
      · exact g4 j (by omega) hjl
    by_cases c1 : lgM p i ≤ t
    · rw [decide_eq_true c1, ifB_true]
      by_cases c2 : ((chI i 0 p.Items).length : Int) - ((chI m 0 p.Items).length : Int) > 0
      · rw [decide_eq_true c2, ifB_true, Option.bind_some, fin_inl, ifB_true]
        exact ⟨_, rfl, i, rfl, c1, fun j hj hjl => hnew j hj hjl (fun _ => by omega) c1⟩
      · rw [decide_eq_false c2, ifB_false]
        by_cases c3 : ((chI i 0 p.Items).length : Int) - ((chI m 0 p.Items).length : Int) = 0
        · rw [show ((((chI i 0 p.Items).length : Int) - ((chI m 0 p.Items).length : Int)) == 0) = true by simpa using c3, ifB_true]
          have hb : ∃ b : Bool, (ifB (decide (lgM p i > lg)) (some (.inl true)) (ifB (lgM p i == lg) ((m_slices_Compare_int_int (chX i 0 p.Items) (chX m 0 p.Items)).bind fun y43 => some (.inl (decide (y43 < 0)))) (some (.inl false))) : Option (Bool ⊕ (Flow (Int × (List Int)) ((List ByteArray) × Int)))) = some (.inl b) := by
            cases decide (lgM p i > lg) with
            | true => exact ⟨true, rfl⟩
            | false =>
              rw [ifB_false]
              cases (lgM p i == lg) with
              | false => exact ⟨false, rfl⟩
              | true =>
                obtain ⟨c, hc⟩ := Compare_total (chX i 0 p.Items) (chX m 0 p.Items)
                rw [ifB_true, hc]; exact ⟨_, rfl⟩
          obtain ⟨b, hb⟩ := hb
          rw [hb, Option.bind_some, fin_inl]
          cases b with
          | true => exact ⟨_, rfl, i, rfl, c1, fun j hj hjl => hnew j hj hjl (fun _ => by omega) c1⟩
          | false => exact ⟨_, rfl, m, rfl, g3, fun j hj hjl => hold j hj hjl (fun _ => by omega)⟩
        · rw [show ((((chI i 0 p.Items).length : Int) - ((chI m 0 p.Items).length : Int)) == 0) = false by simpa using c3, ifB_false, Option.bind_some, fin_inl, ifB_false]
          exact ⟨_, rfl, m, rfl, g3, fun j hj hjl => hold j hj hjl (fun _ => by omega)⟩
    · rw [decide_eq_false c1, ifB_false, Option.bind_some, fin_inl, ifB_false]
      exact ⟨_, rfl, m, rfl, g3, fun j hj hjl => hold j hj hjl (fun hh => absurd hh c1)⟩) (0, []) ⟨0, by
        have : ∀ (l : List TItem) (k : Nat), chX 0 k l = [] := by
          intro l
          induction l with
          | nil => intro k; rfl
          | cons x l ih => intro k; unfold chX; rw [if_neg (by simp), ih]
        exact (this _ _).symm, by
        have : ∀ (l : List TItem) (k : Nat), chI 0 k l = [] := by
          intro l
          induction l with
          | nil => intro k; rfl
          | cons x l ih => intro k; unfold chI; rw [if_neg (by simp), ih]
        unfold lgM
        rw [this]
        exact h0, fun j hj => by omega⟩
  rw [List.length_range] at g4
  rw [g1, Option.bind_some, fin_brk]
  have hout : ∀ (l : List TItem) (k : Nat) (i : Nat) (a : List ByteArray), p.Items.drop k = l → a.length ≤ i → i + l.length ≤ 60 → ∃ j, rangeM (m_concert_Fitting_l3 p) i (chX m k l) a = some (.brk (a ++ (chI m k l).map (·.Key))) ∧ j = i := by
    intro l
    induction l with
    | nil => intro k i a _ _ _; exact ⟨i, by simp [chX, chI], rfl⟩
    | cons x l ih =>
      intro k i a hd ha hb
      have hx : p.Items[k]? = some x := by
        have : (p.Items.drop k)[0]? = some x := by rw [hd]; rfl
        simpa using this
      have hd' : p.Items.drop (k + 1) = l := by rw [← List.drop_drop, hd]; rfl
      simp only [List.length_cons] at hb
      unfold chX chI
      cases ht : m.testBit k with
      | true =>
        rw [if_pos rfl, if_pos rfl, rangeM_cons]
        unfold m_concert_Fitting_l3
        rw [getI_of rfl hx, Option.bind_some, appM_of (by simp; omega) (by omega), Option.bind_some, Option.bind_some, run_nxt]
        obtain ⟨j, hj, -⟩ := ih (k + 1) (i + 1) (a ++ [x.Key]) hd' (by simp; omega) (by omega)
        refine ⟨i, Eq.trans hj ?_, rfl⟩
        simp
      | false =>
        rw [if_neg (by simp), if_neg (by simp)]
        exact ih (k + 1) i a hd' ha (by omega)
  obtain ⟨j, hj, -⟩ := hout p.Items 0 0 [] rfl (by simp) (by omega)
  rw [hj, Option.bind_some, fin_brk]
  exact ⟨m, by simp, g3, g4⟩
/-! ### the items of some keys -/
end Go.G
