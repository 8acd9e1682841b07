/- LVd: VoicesJudged. In plain Lean, no program in sight. -/
import Derived.Test.YthonhgainmokhabDoorLVb
import Derived.Test.YthonhgainmokhabDoorLH5
namespace Go.G
open Go Go.J
set_option linter.unusedSimpArgs false
set_option linter.unusedVariables false
theorem moved_none (a : Int) (is : List Int) {leap : Int} (hl : 0 ≤ leap) : movedF a is is leap = [] := by
  unfold movedF
  have e1 : ∀ kind half low, mvF a is is kind half low = [] := fun kind half low => by
    unfold mvF
    rw [List.flatMap_eq_nil_iff]
    intro high _
    unfold apF
    rw [Int.sub_self, Int.sub_self]
    simp
  have e2 : ∀ k, lpF a is is leap k = [] := fun k => by
    unfold lpF szI
    rw [Int.sub_self, if_neg (by omega)]
  simp only [List.append_eq_nil_iff, List.flatMap_eq_nil_iff]
  exact ⟨⟨fun k _ => e1 _ _ k, fun k _ => e1 _ _ k⟩, fun k _ => e2 k⟩
/-! ### the reference's faults -/
def sgI (x : Int) : Int := if x < 0 then -1 else if x > 0 then 1 else 0
theorem sign_specV (x : Int) : m_gleeref2_sign x = some (sgI x) := by
  unfold m_gleeref2_sign sgI
  rw [ifB_ite, ifB_ite]
  split
  · rfl
  · split <;> rfl
/-- the reference's test -/
def fB (was is : List Int) (kind : Nat) (low high : Nat) (leap : Int) : Bool :=
  match kind with
  | 1 => decide (high = low + 1 ∧ nt is low > nt is high)
  | 2 => decide (high = low + 1 ∧ 0 < low ∧ szI (nt is high - nt is low) > 12)
  | 3 => decide (low < high) && apF was is low high 7
  | 4 => decide (low < high) && apF was is low high 0
  | _ => decide (low = high ∧ szI (nt is low - nt was low) > leap)
theorem fB2 {was is : List Int} {low high : Nat} {leap : Int} (h : fB was is 2 low high leap = true) : 0 < low := (of_decide_eq_true (show decide _ = true from h)).2.1
theorem faulty1_spec {v : List Int} (hv : RN v) {low high : Nat} (h1 : low < v.length) (h2 : high < v.length) : m_gleeref2_faulty_1 v (high : Int) (low : Int) = some (md (nt v high - nt v low)) := by
  have b1 := hv.nt h1
  have b2 := hv.nt h2
  unfold m_gleeref2_faulty_1 md
  rw [getI_of (n := high) rfl (nt_get h2), Option.bind_some, getI_of (n := low) rfl (nt_get h1), Option.bind_some, w64_id (n := nt v high - nt v low) (by omega)]
  have h2 : (nt v high - nt v low).tmod 12 < 12 := Int.tmod_lt_of_pos _ (by omega)
  have h3 : -12 < (nt v high - nt v low).tmod 12 := by
    have := Int.tmod_lt_of_pos (-(nt v high - nt v low)) (show (0 : Int) < 12 by omega)
    rw [Int.neg_tmod] at this
    omega
  rw [w64_id (by omega)]
theorem together_spec {x y : Int} {lt : Bool} (hlt : lt = true) : (ifB lt (ifB (x != 0) ((m_gleeref2_sign x).bind fun y10 => (m_gleeref2_sign y).bind fun y11 => some (.inl (y10 == y11))) (some (.inl false))) (some (.inl false)) : Option (Bool ⊕ Bool)) = some (.inl (decide (x > 0) && decide (y > 0) || decide (x < 0) && decide (y < 0))) := by
  subst hlt
  rw [ifB_true, sign_specV, sign_specV]
  simp only [Option.bind_some]
  unfold sgI
  by_cases h1 : x < 0
  · rw [show (x != 0) = true by simp; omega, ifB_true, if_pos h1, decide_eq_true h1, decide_eq_false (show ¬ x > 0 by omega)]
    by_cases h2 : y < 0
    · rw [if_pos h2, decide_eq_true h2]; rfl
    · rw [if_neg h2, decide_eq_false h2]
      by_cases h3 : y > 0
      · rw [if_pos h3]; rfl
      · rw [if_neg h3]; rfl
  · rw [if_neg h1, decide_eq_false h1]
    by_cases h2 : x > 0
    · rw [show (x != 0) = true by simp; omega, ifB_true, if_pos h2, decide_eq_true h2]
      by_cases h3 : y < 0
      · rw [if_pos h3, decide_eq_true h3, decide_eq_false (show ¬ y > 0 by omega)]; rfl
      · rw [if_neg h3, decide_eq_false h3]
        by_cases h4 : y > 0
        · rw [if_pos h4, decide_eq_true h4]; rfl
        · rw [if_neg h4, decide_eq_false h4]; rfl
    · rw [show (x != 0) = false by simp; omega, ifB_false, decide_eq_false h2]; rfl
theorem faulty_spec {was is : List Int} (hw : RN was) (hi : RN is) (hl : was.length = is.length) {low high : Nat} (h0 : low ≤ high) (h2 : high < is.length) (kind : Nat) (hk : kind ≤ 5) {leap : Int} (hlp : 0 ≤ leap) :
    m_gleeref2_faulty was is (kind : Int) (low : Int) (high : Int) leap = some (fB was is kind low high leap) := by
  have h1 : low < is.length := by omega
  have b1 := hw.nt (k := low) (by omega)
  have b2 := hw.nt (k := high) (by omega)
  have b3 := hi.nt h1
  have b4 := hi.nt h2
  have hi5 := hi.1
  unfold m_gleeref2_faulty
  rw [getI_of (n := low) rfl (nt_get h1), Option.bind_some, getI_of (n := low) rfl (nt_get (hl ▸ h1)), Option.bind_some, getI_of (n := high) rfl (nt_get h2), Option.bind_some, getI_of (n := high) rfl (nt_get (hl ▸ h2)), Option.bind_some]
  simp only [Option.bind_some]
  rw [w64_id (n := nt is low - nt was low) (by omega), w64_id (n := nt is high - nt was high) (by omega), w64_id (n := nt is high - nt is low) (by omega), w64_id (n := nt is low - nt is high) (by omega), w64_id (n := (low : Int) + 1) (by omega), w64_id (n := 0 - (nt is low - nt was low)) (by omega)]
  rw [faulty1_spec hw (hl ▸ h1) (hl ▸ h2), faulty1_spec hi h1 h2]
  have hadj : ((high : Int) == (low : Int) + 1) = decide (high = low + 1) := by
    by_cases h : high = low + 1
    · rw [decide_eq_true h, h]; simp
    · rw [decide_eq_false h]; simp; omega
  have htog : ∃ c, (ifB (decide ((low : Int) < (high : Int))) (ifB (nt is low - nt was low != 0) ((m_gleeref2_sign (nt is low - nt was low)).bind fun y10 => (m_gleeref2_sign (nt is high - nt was high)).bind fun y11 => some (.inl (y10 == y11))) (some (.inl false))) (some (.inl false)) : Option (Bool ⊕ Bool)) = some (.inl c) ∧ c = (decide (low < high) && (decide (nt is low - nt was low > 0) && decide (nt is high - nt was high > 0) || decide (nt is low - nt was low < 0) && decide (nt is high - nt was high < 0))) := by
    by_cases h : low < high
    · exact ⟨_, together_spec (decide_eq_true (by omega)), by rw [decide_eq_true h, Bool.true_and]⟩
    · exact ⟨false, by rw [decide_eq_false (by omega), ifB_false], by rw [decide_eq_false h, Bool.false_and]⟩
  obtain ⟨c, hc, hcv⟩ := htog
  rw [hc, Option.bind_some, fin_inl, hadj]
  have h05 : ∀ k : Nat, k = 0 ∨ k = 5 → (ifB ((k : Int) == 1) (ifB (decide (high = low + 1)) (some (decide (nt is low > nt is high))) (some false)) (ifB ((k : Int) == 2) (ifB (decide (high = low + 1)) (ifB (decide ((low : Int) > 0)) (some (decide (max (nt is high - nt is low) (nt is low - nt is high) > 12))) (some false)) (some false)) (ifB ((k : Int) == 3) ((ifB c (ifB (md (nt was high - nt was low) == 7) (some (.inl (md (nt is high - nt is low) == 7))) (some (.inl false))) (some (.inl false)) : Option (Bool ⊕ Bool)).bind fun k20 => Sum.fin k20 fun u18 => some u18) (ifB ((k : Int) == 4) ((ifB c (ifB (md (nt was high - nt was low) == 0) (some (.inl (md (nt is high - nt is low) == 0))) (some (.inl false))) (some (.inl false)) : Option (Bool ⊕ Bool)).bind fun k25 => Sum.fin k25 fun u23 => some u23) (ifB ((low : Int) == (high : Int)) (some (decide (max (nt is low - nt was low) (0 - (nt is low - nt was low)) > leap))) (some false)))))) = some (decide (low = high ∧ szI (nt is low - nt was low) > leap)) := by
    intro k hk
    rw [show ((k : Int) == 1) = false by simp; omega, show ((k : Int) == 2) = false by simp; omega, show ((k : Int) == 3) = false by simp; omega, show ((k : Int) == 4) = false by simp; omega]
    simp only [ifB_false]
    by_cases h : low = high
    · subst h
      rw [show ((low : Int) == (low : Int)) = true by simp, ifB_true]
      congr 1
      simp only [true_and]
      unfold szI
      rw [decide_eq_decide]
      omega
    · rw [show ((low : Int) == (high : Int)) = false by simp; omega, ifB_false]
      simp [h]
  have h5 : kind = 0 ∨ kind = 1 ∨ kind = 2 ∨ kind = 3 ∨ kind = 4 ∨ kind = 5 := by omega
  rcases h5 with rfl | rfl | rfl | rfl | rfl | rfl
  · exact h05 0 (.inl rfl)
  · rw [show (((1 : Nat) : Int) == 1) = true from rfl, ifB_true]
    unfold fB
    by_cases h : high = low + 1
    · simp only [h, decide_true, ifB_true, true_and]
    · simp only [h, decide_false, ifB_false, false_and]
  · rw [show (((2 : Nat) : Int) == 1) = false from rfl, show (((2 : Nat) : Int) == 2) = true from rfl, ifB_true, ifB_false]
    unfold fB
    by_cases h : high = low + 1
    · by_cases h' : 0 < low
      · simp only [h, decide_true, ifB_true, true_and]
        rw [decide_eq_true (show (low : Int) > 0 by omega), ifB_true]
        congr 1
        unfold szI
        simp only [h', true_and]
        rw [decide_eq_decide]
        omega
      · simp only [h, decide_true, ifB_true, true_and]
        rw [decide_eq_false (show ¬ (low : Int) > 0 by omega), ifB_false]
        simp [h']
    · simp only [h, decide_false, ifB_false, false_and]
  · rw [show (((3 : Nat) : Int) == 1) = false from rfl, show (((3 : Nat) : Int) == 2) = false from rfl, show (((3 : Nat) : Int) == 3) = true from rfl]
    simp only [ifB_false, ifB_true, Option.bind_some]
    show _ = some (decide (low < high) && apF was is low high 7)
    unfold apF
    rw [← Bool.and_assoc, ← hcv]
    cases c
    · rfl
    · rw [ifB_true, Bool.true_and]
      cases (md (nt was high - nt was low) == 7) <;> rfl
  · rw [show (((4 : Nat) : Int) == 1) = false from rfl, show (((4 : Nat) : Int) == 2) = false from rfl, show (((4 : Nat) : Int) == 3) = false from rfl, show (((4 : Nat) : Int) == 4) = true from rfl]
    simp only [ifB_false, ifB_true, Option.bind_some]
    show _ = some (decide (low < high) && apF was is low high 0)
    unfold apF
    rw [← Bool.and_assoc, ← hcv]
    cases c
    · rfl
    · rw [ifB_true, Bool.true_and]
      cases (md (nt was high - nt was low) == 0) <;> rfl
  · exact h05 5 (.inr rfl)
def refK (a : Int) (was is : List Int) (leap : Int) (kind low : Nat) : List TFault := (List.range' low (is.length - low)).flatMap fun high => if fB was is kind low high leap = true then [⟨a, (kind : Int), (low : Int), (high : Int)⟩] else []
def refAt (a : Int) (was is : List Int) (leap : Int) : List TFault := (List.range' 1 5).flatMap fun kind => (List.range is.length).flatMap (refK a was is leap kind)
theorem flat_cgV {β : Type} {f g : Nat → List β} : ∀ {l : List Nat}, (∀ k, k ∈ l → f k = g k) → l.flatMap f = l.flatMap g
  | [], _ => rfl
  | x :: l, h => by rw [List.flatMap_cons, List.flatMap_cons, h x (List.mem_cons_self ..), flat_cgV fun k hk => h k (List.mem_cons_of_mem _ hk)]
theorem flat_nilV {β : Type} {f : Nat → List β} {l : List Nat} (h : ∀ k, k ∈ l → f k = []) : l.flatMap f = [] := List.flatMap_eq_nil_iff.2 h
theorem refK_split (a : Int) (was is : List Int) (leap : Int) (kind low : Nat) (h : low < is.length) : refK a was is leap kind low = (if fB was is kind low low leap = true then [⟨a, (kind : Int), (low : Int), (low : Int)⟩] else []) ++ (List.range' (low + 1) (is.length - (low + 1))).flatMap fun high => if fB was is kind low high leap = true then [⟨a, (kind : Int), (low : Int), (high : Int)⟩] else [] := by
  unfold refK
  rw [show is.length - low = is.length - (low + 1) + 1 by omega, List.range'_succ, List.flatMap_cons]
/-- of neighbours alone -/
theorem refK_adj (a : Int) (was is : List Int) (leap : Int) (kind low : Nat) (h : low < is.length) (hn : ∀ high, fB was is kind low high leap = true → high = low + 1) : refK a was is leap kind low = if low + 1 < is.length ∧ fB was is kind low (low + 1) leap = true then [⟨a, (kind : Int), (low : Int), ((low + 1 : Nat) : Int)⟩] else [] := by
  rw [refK_split a was is leap kind low h, if_neg (fun e => by have := hn low e; omega), List.nil_append]
  by_cases h1 : low + 1 < is.length
  · rw [show is.length - (low + 1) = is.length - (low + 2) + 1 by omega, List.range'_succ, List.flatMap_cons, flat_nilV (l := List.range' (low + 1 + 1) (is.length - (low + 2))) (fun k hk => by
      rw [List.mem_range'] at hk
      obtain ⟨i, hi, rfl⟩ := hk
      rw [if_neg (fun e => by have := hn _ e; omega)]), List.append_nil]
    by_cases h2 : fB was is kind low (low + 1) leap = true
    · rw [if_pos h2, if_pos ⟨h1, h2⟩]
    · rw [if_neg h2, if_neg (fun e => h2 e.2)]
  · rw [if_neg (fun e => h1 e.1), show is.length - (low + 1) = 0 by omega]; rfl
theorem ref_cross (a : Int) (was is : List Int) (leap : Int) (h0 : 1 ≤ is.length) : (List.range is.length).flatMap (refK a was is leap 1) = (List.range (is.length - 1)).flatMap (crF a is) := by
  have e : List.range is.length = List.range (is.length - 1) ++ [is.length - 1] := by rw [← List.range_succ, show (is.length - 1).succ = is.length by omega]
  have hn : ∀ low high, fB was is 1 low high leap = true → high = low + 1 := fun low high h => (of_decide_eq_true (show decide _ = true from h)).1
  rw [e, List.flatMap_append, List.flatMap_singleton, refK_adj a was is leap 1 (is.length - 1) (by omega) (hn _), if_neg (fun h => by omega), List.append_nil]
  refine flat_cgV fun k hk => ?_
  rw [List.mem_range] at hk
  rw [refK_adj a was is leap 1 k (by omega) (hn _)]
  unfold crF
  by_cases h : nt is k > nt is (k + 1)
  · rw [if_pos h, if_pos ⟨by omega, decide_eq_true ⟨rfl, h⟩⟩]; rfl
  · rw [if_neg h, if_neg (fun e => h (of_decide_eq_true (show decide _ = true from e.2)).2)]
theorem ref_far (a : Int) (was is : List Int) (leap : Int) (h0 : 1 ≤ is.length) : (List.range is.length).flatMap (refK a was is leap 2) = (List.range' 1 (is.length - 1 - 1)).flatMap (faF a is) := by
  have hn : ∀ low high, fB was is 2 low high leap = true → high = low + 1 := fun low high h => (of_decide_eq_true (show decide _ = true from h)).1
  have hz : refK a was is leap 2 0 = [] := by
    rw [refK_adj a was is leap 2 0 (by omega) (hn _), if_neg (fun h => by have := fB2 h.2; omega)]
  by_cases h1 : is.length = 1
  · rw [h1]
    show refK a was is leap 2 0 ++ [] = _
    rw [hz]; rfl
  · have e : List.range is.length = 0 :: (List.range' 1 (is.length - 1 - 1) ++ [is.length - 1]) := by
      rw [List.range_eq_range', show is.length = (is.length - 1 - 1) + 1 + 1 by omega, List.range'_succ, show (is.length - 1 - 1 + 1 + 1 - 1 - 1) = is.length - 1 - 1 by omega, ← List.range'_append_1, show 0 + 1 = 1 from rfl]
      simp
      omega
    rw [e, List.flatMap_cons, hz, List.nil_append, List.flatMap_append, List.flatMap_singleton, refK_adj a was is leap 2 (is.length - 1) (by omega) (hn _), if_neg (fun h => by omega), List.append_nil]
    refine flat_cgV fun k hk => ?_
    rw [List.mem_range'] at hk
    obtain ⟨i, hi, rfl⟩ := hk
    rw [refK_adj a was is leap 2 _ (by omega) (hn _)]
    unfold faF
    by_cases h : szI (nt is (1 + 1 * i + 1) - nt is (1 + 1 * i)) > 12
    · rw [if_pos h, if_pos ⟨by omega, decide_eq_true ⟨rfl, by omega, h⟩⟩]; rfl
    · rw [if_neg h, if_neg (fun e => h (of_decide_eq_true (show decide _ = true from e.2)).2.2)]
theorem ref_move (a : Int) (was is : List Int) (leap : Int) (kind : Nat) (half : Int) (hk : ∀ low high, fB was is kind low high leap = (decide (low < high) && apF was is low high half)) : (List.range is.length).flatMap (refK a was is leap kind) = (List.range is.length).flatMap (mvF a was is (kind : Int) half) := by
  refine flat_cgV fun low hl => ?_
  rw [List.mem_range] at hl
  rw [refK_split a was is leap kind low hl, if_neg (by rw [hk]; simp), List.nil_append]
  unfold mvF
  refine flat_cgV fun high hh => ?_
  rw [List.mem_range'] at hh
  obtain ⟨i, hi, rfl⟩ := hh
  rw [hk, decide_eq_true (by omega), Bool.true_and]
theorem ref_leap (a : Int) (was is : List Int) (leap : Int) : (List.range is.length).flatMap (refK a was is leap 5) = (List.range is.length).flatMap (lpF a was is leap) := by
  refine flat_cgV fun low hl => ?_
  rw [List.mem_range] at hl
  rw [refK_split a was is leap 5 low hl, flat_nilV (fun k hk => by
    rw [List.mem_range'] at hk
    obtain ⟨i, hi, rfl⟩ := hk
    rw [if_neg (fun e => by have := (of_decide_eq_true (show decide _ = true from e)).1; omega)]), List.append_nil]
  unfold lpF
  by_cases h : szI (nt is low - nt was low) > leap
  · rw [if_pos h, if_pos (show fB was is 5 low low leap = true from decide_eq_true ⟨rfl, h⟩)]; rfl
  · rw [if_neg h, if_neg (fun e => h (of_decide_eq_true (show decide _ = true from e)).2)]
theorem refAt_eq (a : Int) (was is : List Int) (leap : Int) (h0 : 1 ≤ is.length) : refAt a was is leap = stillF a is ++ movedF a was is leap := by
  unfold refAt stillF movedF
  rw [show List.range' 1 5 = [1, 2, 3, 4, 5] from rfl]
  simp only [List.flatMap_cons, List.flatMap_nil, List.append_nil]
  rw [ref_cross a was is leap h0, ref_far a was is leap h0, ref_move a was is leap 3 7 (fun _ _ => rfl), ref_move a was is leap 4 0 (fun _ _ => rfl), ref_leap]
  simp only [List.append_assoc]
  rfl
theorem refK_len (a : Int) (was is : List Int) (leap : Int) (kind low : Nat) (hl : is.length ≤ 5) : (refK a was is leap kind low).length ≤ 5 := by
  unfold refK
  have := flat_len (G := fun high => if fB was is kind low high leap = true then [(⟨a, (kind : Int), (low : Int), (high : Int)⟩ : TFault)] else []) (B := 1) (l := List.range' low (is.length - low)) (fun k _ => by split <;> simp)
  rw [List.length_range'] at this
  omega
theorem refKs_len (a : Int) (was is : List Int) (leap : Int) (kind : Nat) (hl : is.length ≤ 5) : ((List.range is.length).flatMap (refK a was is leap kind)).length ≤ 25 := by
  have := flat_len (G := refK a was is leap kind) (B := 5) (l := List.range is.length) (fun k _ => refK_len a was is leap kind k hl)
  rw [List.length_range] at this
  omega
theorem loopM_appW {β ρ : Type} (step : Int × List β → Option (Flow (Int × List β) ρ)) (G : Nat → List β) (k0 n B N : Nat) (hG : ∀ k, k < n → (G k).length ≤ B)
    (h : ∀ (k : Nat) s, k0 ≤ k → k < n → s.length ≤ N + k * B → step ((k : Int), s) = some (.nxt (((k + 1 : Nat) : Int), s ++ G k))) (hn : ∀ (k : Nat) s, n ≤ k → step ((k : Int), s) = some (.brk ((k : Int), s))) :
    ∀ (d k : Nat) (s : List β), k0 ≤ k → n - k = d → s.length ≤ N + k * B → ∃ z, loopM step ((k : Int), s) = some (.brk (z, s ++ (List.range' k (n - k)).flatMap G)) := by
  intro d
  induction d with
  | zero =>
    intro k s _ hk _
    exact ⟨k, by rw [loopM_step (hn k s (by omega)), run_brk, hk]; simp⟩
  | succ d ih =>
    intro k s h0 hk hl
    obtain ⟨z, hz⟩ := ih (k + 1) (s ++ G k) (by omega) (by omega) (by rw [List.length_append, Nat.add_mul]; have := hG k (by omega); omega)
    refine ⟨z, ?_⟩
    rw [loopM_step (h k s h0 (by omega) hl), run_nxt, hz, show n - k = n - (k + 1) + 1 by omega, List.range'_succ, List.flatMap_cons, List.append_assoc]
theorem FaultsOf_l4 {was is : List Int} (hw : RN was) (h : RN is) (hl : was.length = is.length) {leap : Int} (hlp : 0 ≤ leap) (i kind low : Nat) (hk : kind ≤ 5) (hlow : low < is.length) (s t : List TFault) (hs : s.length ≤ 30000) :
    ∃ z, loopM (m_gleeref2_FaultsOf_l4 leap i is ((kind : Int), t) was low) ((low : Int), s) = some (.brk (z, s ++ refK (i : Int) was is leap kind low)) := by
  have hl5 := h.1
  exact loopM_appW (m_gleeref2_FaultsOf_l4 leap i is ((kind : Int), t) was low) (fun high => if fB was is kind low high leap = true then [⟨(i : Int), (kind : Int), (low : Int), (high : Int)⟩] else []) low is.length 1 40000 (fun k _ => by split <;> simp) (by
    intro high s h0 hh hs
    unfold m_gleeref2_FaultsOf_l4
    simp only []
    rw [decide_eq_true (by omega), ifB_true, faulty_spec hw h hl h0 hh kind hk hlp, Option.bind_some]
    by_cases hf : fB was is kind low high leap = true
    · rw [hf, ifB_true, appM_of (by simp; omega) (by omega), Option.bind_some, if_pos rfl, w64_id (by omega)]; rfl
    · rw [Bool.not_eq_true] at hf
      rw [hf, ifB_false, if_neg (by simp), w64_id (by omega), List.append_nil]; rfl) (by
    intro k s hk
    unfold m_gleeref2_FaultsOf_l4
    simp only []
    rw [decide_eq_false (by omega), ifB_false]) _ low s (Nat.le_refl _) rfl (by omega)
theorem FaultsOf_l2 {was is : List Int} (hw : RN was) (h : RN is) (hl : was.length = is.length) {leap : Int} (hlp : 0 ≤ leap) (i : Nat) (s : List TFault) (hs : s.length ≤ 20000) :
    ∃ z, loopM (m_gleeref2_FaultsOf_l2 leap i is was) (1, s) = some (.brk (z, s ++ refAt (i : Int) was is leap)) := by
  have hl5 := h.1
  obtain ⟨z, hz⟩ := loopM_appV (m_gleeref2_FaultsOf_l2 leap i is was) (fun kind => (List.range is.length).flatMap (refK (i : Int) was is leap kind)) 6 25 20000 (fun k _ => refKs_len _ _ _ _ _ hl5) (by
    intro kind s hk hs
    unfold m_gleeref2_FaultsOf_l2
    simp only []
    rw [decide_eq_true (by omega), ifB_true, rangeM_appV (m_gleeref2_FaultsOf_l3 leap i is ((kind : Int), s) was) (refK (i : Int) was is leap kind) 25000 5 is s (by omega) (fun k _ => refK_len _ _ _ _ _ _ hl5) (by
      intro low x u hx hu
      have hlow := (List.getElem?_eq_some_iff.1 hx).1
      unfold m_gleeref2_FaultsOf_l3
      obtain ⟨z, hz⟩ := FaultsOf_l4 hw h hl hlp i kind low (by omega) hlow u s (by omega)
      rw [hz, Option.bind_some, fin_brk]), Option.bind_some, fin_brk, w64_id (by omega)]
    rfl) (by
    intro k s hk
    unfold m_gleeref2_FaultsOf_l2
    simp only []
    rw [decide_eq_false (by omega), ifB_false]) _ 1 s rfl (by omega)
  exact ⟨z, hz⟩
theorem FaultsOf_spec {v : List (List Int)} (h : RV v) (leap : Int) (hl : 0 ≤ leap ∧ leap ≤ 24) : m_gleeref2_FaultsOf v leap = some (faultsF v leap) := by
  have hgd : ∀ {i : Nat} {is : List Int}, v[i]? = some is → v.getD i [] = is := fun hx => by rw [List.getD_eq_getElem?_getD, hx]; rfl
  have hlen := h.len
  have hB : ∀ i, i < v.length → (atF v leap i).length ≤ 70 := fun i hi => by
    have hx : v[i]? = some v[i] := List.getElem?_eq_getElem hi
    have h1 := h.rn (List.mem_of_getElem? hx)
    unfold atF
    rw [hgd hx, List.length_append]
    have := stillF_len (i : Int) v[i] h1.1
    have := movedF_len (i : Int) (v.getD (i - 1) []) v[i] leap h1.1
    split
    · simp; omega
    · omega
  unfold m_gleeref2_FaultsOf
  rw [rangeM_appV (m_gleeref2_FaultsOf_l1 v leap) (atF v leap) 0 70 v [] (by simp) hB (by
    intro i is s hx hs
    have hi := (List.getElem?_eq_some_iff.1 hx).1
    have hm := List.mem_of_getElem? hx
    have h1 := h.rn hm
    have h0 := (h.row is hm).1
    unfold m_gleeref2_FaultsOf_l1 atF
    rw [hgd hx]
    cases i with
    | zero =>
      obtain ⟨z, hz⟩ := FaultsOf_l2 h1 h1 rfl hl.1 0 s (by omega)
      rw [decide_eq_false (by omega), ifB_false, Option.bind_some, fin_inl, hz, Option.bind_some, fin_brk, if_pos rfl, refAt_eq _ _ _ _ h0, moved_none _ _ hl.1]
    | succ i =>
      have hp : v[i]? = some (v[i]'(by omega)) := List.getElem?_eq_getElem _
      have hpm := List.mem_of_getElem? hp
      obtain ⟨z, hz⟩ := FaultsOf_l2 (h.rn hpm) h1 (h.same _ hpm _ hm) hl.1 (i + 1) s (by omega)
      rw [decide_eq_true (by omega), ifB_true, w64_id (by omega), getI_of (n := i) (by omega) hp, Option.bind_some, Option.bind_some, fin_inl, hz, Option.bind_some, fin_brk, if_neg (by omega), refAt_eq _ _ _ _ h0]
      simp only [Nat.add_sub_cancel]
      rw [hgd hp])]
  rw [List.nil_append]
  rfl
/-! ### chords and notes -/
def chkL (r k t : Nat) : Bool := match m_gleeref2_TonesOf ⟨r, k, t⟩ with
  | some T => decide (0 < T.length)
  | none => false
theorem chkL_all : ((List.range 12).all fun r => (List.range 8).all fun k => (List.range 4).all fun t => decide (k = 0) || chkL r k t) = true := by decide +kernel
theorem TonesOf_pos {r k t : Nat} (hr : r < 12) (hk : 1 ≤ k ∧ k ≤ 7) (ht : t < 4) : ∃ T, m_gleeref2_TonesOf ⟨r, k, t⟩ = some T ∧ 0 < T.length := by
  have h := List.all_eq_true.1 (List.all_eq_true.1 (List.all_eq_true.1 chkL_all r (List.mem_range.2 hr)) k (List.mem_range.2 (by omega))) t (List.mem_range.2 ht)
  rw [decide_eq_false (by omega), Bool.false_or] at h
  unfold chkL at h
  split at h
  · exact ⟨_, by assumption, of_decide_eq_true h⟩
  · exact absurd h (by simp)
theorem right_pos {c : TChord} (h : ∃ r k t, Right c r k t) : ∃ T, m_chord_tones c = some T ∧ m_gleeref2_TonesOf c = some T ∧ T.length ≤ 4 ∧ 0 < T.length := by
  obtain ⟨T, h1, h2, h3, -⟩ := right_tones h
  obtain ⟨r, k, t, rfl, hr, hk, ht⟩ := h
  have := klen_le hk
  obtain ⟨T', h4, h5⟩ := TonesOf_pos hr hk (t := t) (by omega)
  rw [h2] at h4
  cases h4
  exact ⟨T, h1, h2, h3, h5⟩
end Go.G
