/- LVg: all rows of notes of a chord, by the reference. In plain Lean, no program in sight. -/
import Derived.Test.YthonhgainmokhabDoorLVf
namespace Go.G
open Go Go.J
set_option linter.unusedSimpArgs false
set_option linter.unusedVariables false
/-- no voices that cross or stand far apart -/
def adj (p : List Int) : Prop := ∀ i, i + 1 < p.length → nt p i ≤ nt p (i + 1) ∧ (0 < i → nt p (i + 1) - nt p i ≤ 12)
theorem still_nil (a : Int) (p : List Int) : stillF a p = [] ↔ adj p := by
  unfold stillF
  rw [List.append_eq_nil_iff, List.flatMap_eq_nil_iff, List.flatMap_eq_nil_iff]
  have hc : ∀ k, crF a p k = [] ↔ nt p k ≤ nt p (k + 1) := fun k => by
    unfold crF
    split
    · simp; omega
    · simp; omega
  have hf : ∀ k, faF a p k = [] ↔ szI (nt p (k + 1) - nt p k) ≤ 12 := fun k => by
    unfold faF
    split
    · simp; omega
    · simp; omega
  constructor
  · rintro ⟨h1, h2⟩ i hi
    have g1 := (hc i).1 (h1 i (List.mem_range.2 (by omega)))
    refine ⟨g1, fun h0 => ?_⟩
    have g2 := (hf i).1 (h2 i (List.mem_range'.2 ⟨i - 1, by omega, by omega⟩))
    unfold szI at g2
    omega
  · intro h
    refine ⟨fun k hk => (hc k).2 (h k (by have := List.mem_range.1 hk; omega)).1, fun k hk => (hf k).2 ?_⟩
    obtain ⟨j, hj, rfl⟩ := List.mem_range'.1 hk
    obtain ⟨g1, g2⟩ := h (1 + 1 * j) (by omega)
    have := g2 (by omega)
    unfold szI
    omega
noncomputable def qB (T row : List Int) : Bool := (stillF 0 row).isEmpty && fitsB T row
theorem qB_iff {T row : List Int} : qB T row = true ↔ adj row ∧ fitsB T row = true := by
  unfold qB
  rw [Bool.and_eq_true, List.isEmpty_iff, still_nil]
theorem ext_mem (T : List Int) : ∀ (rest : List TRange) (p row : List Int), row ∈ ext T rest p → ∃ s, row = p ++ s ∧ s.length = rest.length ∧ ∀ x ∈ s, ∃ r ∈ rest, r.Low ≤ x ∧ x ≤ r.High
  | [], p, row, h => by
    unfold ext at h
    rw [List.mem_singleton] at h
    exact ⟨[], by simp [h], rfl, by simp⟩
  | r :: rest, p, row, h => by
    unfold ext at h
    obtain ⟨n, hn, h2⟩ := List.mem_flatMap.1 h
    split at h2
    · obtain ⟨s, rfl, h3, h4⟩ := ext_mem T rest (p ++ [n]) row h2
      refine ⟨n :: s, by simp, by simp [h3], fun x hx => ?_⟩
      rcases List.mem_cons.1 hx with rfl | hx
      · exact ⟨r, List.mem_cons_self .., mem_rng hn⟩
      · obtain ⟨r', h5, h6⟩ := h4 x hx
        exact ⟨r', List.mem_cons_of_mem _ h5, h6⟩
    · cases h2
theorem nt_app {p s : List Int} {i : Nat} (h : i < p.length) : nt (p ++ s) i = nt p i := by
  unfold nt
  rw [List.getD_eq_getElem?_getD, List.getD_eq_getElem?_getD, List.getElem?_append_left h]
theorem nt_snoc {p s : List Int} {n : Int} : nt (p ++ [n] ++ s) p.length = n := by
  unfold nt
  rw [List.getD_eq_getElem?_getD, List.append_assoc, List.getElem?_append_right (Nat.le_refl _), Nat.sub_self]
  rfl
theorem adj_snoc {p : List Int} {n : Int} (h : adj p) (h1 : 0 < p.length → lastN p ≤ n) (h2 : 1 < p.length → n - lastN p ≤ 12) : adj (p ++ [n]) := by
  intro i hi
  rw [List.length_append, List.length_singleton] at hi
  by_cases hlt : i + 1 < p.length
  · rw [nt_app (by omega), nt_app hlt]
    exact h i hlt
  · have e1 : i + 1 = p.length := by omega
    have e2 : nt (p ++ [n]) (i + 1) = n := by
      have := nt_snoc (p := p) (s := []) (n := n)
      rw [List.append_nil] at this
      rw [e1, this]
    have e3 : nt (p ++ [n]) i = lastN p := by
      rw [nt_app (by omega)]
      unfold lastN
      congr 1
      omega
    rw [e2, e3]
    exact ⟨h1 (by omega), fun h0 => h2 (by omega)⟩
theorem dfs_ext (T : List Int) : ∀ (rest : List TRange) (p : List Int), adj p → (0 < p.length → (nt p 0).tmod 12 = nt T 0) → dfs T rest p = (ext T rest p).filter (qB T)
  | [], p, h, _ => by
    unfold dfs ext
    rw [List.filter_cons, List.filter_nil]
    by_cases hf : fitsB T p = true
    · rw [if_pos hf, if_pos (qB_iff.2 ⟨h, hf⟩)]
    · rw [if_neg hf, if_neg (fun e => hf (qB_iff.1 e).2)]
  | r :: rest, p, h, h0 => by
    unfold dfs ext
    rw [List.filter_flatMap]
    have key : ∀ n, (if okB T p n = true then dfs T rest (p ++ [n]) else []) = (if inT T n = true then ext T rest (p ++ [n]) else []).filter (qB T) := fun n => by
      by_cases hT : inT T n = true
      · rw [if_pos hT]
        by_cases hok : okB T p n = true
        · rw [if_pos hok]
          unfold okB at hok
          simp only [Bool.and_eq_true, Bool.or_eq_true, decide_eq_true_eq, beq_iff_eq] at hok
          refine dfs_ext T rest (p ++ [n]) (adj_snoc h (fun hp => ?_) (fun hp => ?_)) (fun _ => ?_)
          · rcases hok.2.2 with h3 | h3
            · omega
            · exact h3.1
          · rcases hok.2.2 with h3 | h3
            · omega
            · rcases h3.2 with h4 | h4
              · omega
              · exact h4
          · by_cases hp : 0 < p.length
            · rw [nt_app hp]; exact h0 hp
            · have : p = [] := List.eq_nil_of_length_eq_zero (by omega)
              subst this
              rcases hok.2.1 with h3 | h3
              · omega
              · exact h3
        · rw [if_neg hok]
          symm
          rw [List.filter_eq_nil_iff]
          intro row hrow hq
          obtain ⟨s, rfl, -, -⟩ := ext_mem T rest (p ++ [n]) row hrow
          obtain ⟨g1, g2⟩ := qB_iff.1 hq
          apply hok
          unfold okB
          simp only [Bool.and_eq_true, Bool.or_eq_true, decide_eq_true_eq, beq_iff_eq]
          refine ⟨hT, ?_, ?_⟩
          · by_cases hp : 0 < p.length
            · exact .inl hp
            · right
              have : p = [] := List.eq_nil_of_length_eq_zero (by omega)
              subst this
              unfold fitsB at g2
              rw [Bool.and_eq_true, decide_eq_true_eq] at g2
              exact g2.1
          · by_cases hp : p.length = 0
            · exact .inl hp
            · right
              have g3 := g1 (p.length - 1) (by simp only [List.length_append, List.length_singleton]; omega)
              rw [show p.length - 1 + 1 = p.length by omega, nt_snoc, List.append_assoc, nt_app (p := p) (by omega)] at g3
              refine ⟨g3.1, ?_⟩
              by_cases hp1 : p.length ≤ 1
              · exact .inl hp1
              · exact .inr (g3.2 (by omega))
      · have hok : okB T p n ≠ true := fun e => hT (by unfold okB at e; rw [Bool.and_eq_true] at e; exact e.1)
        rw [if_neg hT, if_neg hok]; rfl
    congr 1
    funext n
    exact key n
/-! ### level by level -/
theorem rangeM_appX {α β ρ : Type} (step : Nat → α → List β → Option (Flow (List β) ρ)) (G : α → List β) (N B : Nat) : ∀ (xs : List α) (i : Nat) (s : List β), (∀ x ∈ xs, (G x).length ≤ B) → (∀ i x s, x ∈ xs → s.length + B ≤ N → step i x s = some (.nxt (s ++ G x))) → s.length + xs.length * B ≤ N →
    rangeM step i xs s = some (.brk (s ++ xs.flatMap G))
  | [], i, s, _, _, _ => by simp [rangeM]
  | x :: xs, i, s, hB, h, hN => by
    rw [List.length_cons, Nat.add_mul] at hN
    have hx := hB x (List.mem_cons_self ..)
    rw [rangeM_cons, h i x s (List.mem_cons_self ..) (by omega), Option.bind_some, run_nxt,
      rangeM_appX step G N B xs (i + 1) (s ++ G x) (fun y hy => hB y (List.mem_cons_of_mem _ hy)) (fun j y u hy => h j y u (List.mem_cons_of_mem _ hy)) (by rw [List.length_append]; omega), List.flatMap_cons, List.append_assoc]
def lvl (T : List Int) (r : TRange) (row : List Int) : List (List Int) := (rng r).flatMap fun n => if inT T n = true then [row ++ [n]] else []
theorem fold_app {β : Type} (G : Int → List β) : ∀ (l : List Int) (s : List β), l.foldl (fun s n => s ++ G n) s = s ++ l.flatMap G
  | [], s => by simp
  | x :: l, s => by rw [List.foldl_cons, fold_app G l, List.flatMap_cons, List.append_assoc]
theorem rng_len {r : TRange} (h : 0 ≤ r.Low ∧ r.Low ≤ r.High ∧ r.High ≤ 127 ∧ r.High - r.Low ≤ 24) : (rng r).length ≤ 25 := by
  unfold rng ints
  rw [List.length_map, List.length_range]
  omega
theorem flat_le1 {β : Type} (G : Int → List β) (h : ∀ n, (G n).length ≤ 1) : ∀ (l : List Int), (l.flatMap G).length ≤ l.length
  | [] => by simp
  | x :: l => by
    have := flat_le1 G h l
    have := h x
    rw [List.flatMap_cons, List.length_append, List.length_cons]
    omega
theorem lvl_len {T : List Int} {r : TRange} (h : 0 ≤ r.Low ∧ r.Low ≤ r.High ∧ r.High ≤ 127 ∧ r.High - r.Low ≤ 24) (row : List Int) : (lvl T r row).length ≤ 25 := by
  have := rng_len h
  unfold lvl
  exact Nat.le_trans (flat_le1 (fun n => if inT T n = true then [row ++ [n]] else []) (fun n => by split <;> simp) _) this
theorem lvl_l2 {c : TChord} {T : List Int} (hc : CT c T) {r : TRange} (h : 0 ≤ r.Low ∧ r.Low ≤ r.High ∧ r.High ≤ 127 ∧ r.High - r.Low ≤ 24) (i : Nat) (row : List Int) (s : List (List Int)) (hrow : row.length ≤ 5) (hs : s.length ≤ 10000000) :
    m_gleeref2_rowsFor_l2 c r i row s = some (.nxt (s ++ lvl T r row)) := by
  have h4 := hc.len
  unfold m_gleeref2_rowsFor_l2
  obtain ⟨z, hz⟩ := loop_up (m_gleeref2_rowsFor_l3 c r row) (fun n s => s ++ if inT T n = true then [row ++ [n]] else []) r.Low r.High (fun n s => s.length ≤ 10000000 + (n - r.Low).toNat) (by
    intro n u hlo hhi hu
    refine ⟨?_, by rw [List.length_append]; split <;> simp <;> omega⟩
    unfold m_gleeref2_rowsFor_l3
    simp only []
    rw [decide_eq_true hhi, ifB_true, hc.ref, Option.bind_some, Contains_spec, Option.bind_some]
    by_cases hT : inT T n = true
    · have hT' : (T.any fun x => n.tmod 12 == x) = true := hT
      rw [hT', ifB_true, CloneI row (by omega), Option.bind_some, appM_of (by simp; omega) (by omega), Option.bind_some, appM_of (by simp; omega) (by omega), Option.bind_some, if_pos hT, w64_id (by omega)]
    · have hT' : (T.any fun x => n.tmod 12 == x) = false := by rw [← Bool.not_eq_true]; exact hT
      rw [hT', ifB_false, if_neg hT, List.append_nil, w64_id (by omega)]) (by
    intro n u hn
    unfold m_gleeref2_rowsFor_l3
    simp only []
    rw [decide_eq_false (by omega), ifB_false]) _ r.Low s rfl (Int.le_refl _) (by omega)
  rw [hz, Option.bind_some, fin_brk, fold_app]
  rfl
theorem flat_one {β : Type} : ∀ (R : List β), R.flatMap (fun row => [row]) = R
  | [] => rfl
  | a :: R => by rw [List.flatMap_cons, flat_one R]; rfl
theorem lvls {c : TChord} {T : List Int} (hc : CT c T) : ∀ (rest : List TRange) (i : Nat) (R : List (List Int)), (∀ r ∈ rest, 0 ≤ r.Low ∧ r.Low ≤ r.High ∧ r.High ≤ 127 ∧ r.High - r.Low ≤ 24) → (∀ row ∈ R, row.length + rest.length ≤ 5) → R.length * 25 ^ rest.length ≤ 9765625 →
    rangeM (m_gleeref2_rowsFor_l1 c) i rest R = some (.brk (R.flatMap (ext T rest)))
  | [], i, R, _, _, _ => by
    have : R.flatMap (ext T []) = R := by
      have e : ext T [] = fun row => [row] := by funext row; rfl
      rw [e]
      exact flat_one R
    rw [this]; rfl
  | r :: rest, i, R, hr, hR, hN => by
    have hro := hr r (List.mem_cons_self ..)
    rw [List.length_cons, Nat.pow_succ] at hN
    have hpos : 0 < 25 ^ rest.length := Nat.pow_pos (by omega)
    have hR25 : R.length * 25 ≤ 9765625 := Nat.le_trans (Nat.mul_le_mul_left _ (by omega)) hN
    rw [rangeM_cons]
    have hs : m_gleeref2_rowsFor_l1 c i r R = some (.nxt (R.flatMap (lvl T r))) := by
      unfold m_gleeref2_rowsFor_l1
      rw [rangeM_appX (m_gleeref2_rowsFor_l2 c r) (lvl T r) 10000000 25 R 0 [] (fun row _ => lvl_len hro row) (fun j row s hrow hs => lvl_l2 hc hro j row s (by have := hR row hrow; rw [List.length_cons] at this; omega) (by omega)) (by rw [List.length_nil]; omega), Option.bind_some, fin_brk, List.nil_append]
    rw [hs, Option.bind_some, run_nxt]
    have hlen : (R.flatMap (lvl T r)).length ≤ R.length * 25 := by
      have := flat_lenX (G := lvl T r) (B := 25) (l := R) (fun row _ => lvl_len hro row)
      exact this
    rw [lvls hc rest (i + 1) (R.flatMap (lvl T r)) (fun r' h' => hr r' (List.mem_cons_of_mem _ h')) (fun row hrow => by
      obtain ⟨p, hp, h1⟩ := List.mem_flatMap.1 hrow
      unfold lvl at h1
      obtain ⟨n, -, h2⟩ := List.mem_flatMap.1 h1
      have := hR p hp
      rw [List.length_cons] at this
      split at h2
      · rw [List.mem_singleton.1 h2, List.length_append, List.length_singleton]
        omega
      · cases h2) (Nat.le_trans (Nat.mul_le_mul_right _ hlen) (by rw [Nat.mul_assoc, Nat.mul_comm 25]; exact hN)), List.flatMap_assoc]
    congr 3
    funext row
    show (lvl T r row).flatMap (ext T rest) = ext T (r :: rest) row
    unfold lvl
    rw [List.flatMap_assoc]
    unfold ext
    congr 1
    funext n
    split <;> simp
where
  flat_lenX {G : List Int → List (List Int)} {B : Nat} : ∀ {l : List (List Int)}, (∀ k, k ∈ l → (G k).length ≤ B) → (l.flatMap G).length ≤ l.length * B
    | [], _ => by simp
    | x :: l, h => by
      rw [List.flatMap_cons, List.length_append, List.length_cons, Nat.add_mul]
      have h1 := h x (List.mem_cons_self ..)
      have h2 := flat_lenX fun k hk => h k (List.mem_cons_of_mem _ hk)
      omega
theorem ext_len (T : List Int) : ∀ (rest : List TRange) (p : List Int), (∀ r ∈ rest, 0 ≤ r.Low ∧ r.Low ≤ r.High ∧ r.High ≤ 127 ∧ r.High - r.Low ≤ 24) → (ext T rest p).length ≤ 25 ^ rest.length
  | [], p, _ => by unfold ext; simp
  | r :: rest, p, h => by
    have key : ∀ (l : List Int), (l.flatMap fun n => if inT T n = true then ext T rest (p ++ [n]) else []).length ≤ l.length * 25 ^ rest.length := by
      intro l
      induction l with
      | nil => simp
      | cons x l ih =>
        rw [List.flatMap_cons, List.length_append, List.length_cons, Nat.add_mul]
        have : (if inT T x = true then ext T rest (p ++ [x]) else []).length ≤ 25 ^ rest.length := by
          split
          · exact ext_len T rest _ fun r' h' => h r' (List.mem_cons_of_mem _ h')
          · simp
        omega
    unfold ext
    refine Nat.le_trans (key _) ?_
    rw [List.length_cons, Nat.pow_succ, Nat.mul_comm (25 ^ rest.length)]
    exact Nat.mul_le_mul_right _ (rng_len (h r (List.mem_cons_self ..)))
structure RowOK (v : Nat) (row : List Int) : Prop where
  len : row.length = v
  notes : ∀ x ∈ row, 0 ≤ x ∧ x ≤ 127
theorem ext_ok {T : List Int} {rs : List TRange} (hr : RR rs) {row : List Int} (h : row ∈ ext T rs []) : RowOK rs.length row := by
  obtain ⟨s, rfl, h1, h2⟩ := ext_mem T rs [] row h
  refine ⟨by simpa using h1, fun x hx => ?_⟩
  obtain ⟨r, hr1, h3⟩ := h2 x (by simpa using hx)
  have := hr.ok r hr1
  omega
theorem faults_one (row : List Int) (leap : Int) : faultsF [row] leap = stillF 0 row := by
  unfold faultsF
  show (List.range 1).flatMap (atF [row] leap) = _
  rw [show List.range 1 = [0] from rfl, List.flatMap_cons, List.flatMap_nil]
  unfold atF
  simp
theorem rowsFor_spec {c : TChord} {T : List Int} (hc : CT c T) {rs : List TRange} (hr : RR rs) : m_gleeref2_rowsFor c rs = some (dfs T rs []) := by
  have hl := hr.len
  have h25 : 25 ^ rs.length ≤ 9765625 := Nat.le_trans (Nat.pow_le_pow_right (by omega) hl.2) (by decide)
  unfold m_gleeref2_rowsFor
  rw [lvls hc rs 0 [[]] hr.ok (by intro row h; rw [List.mem_singleton.1 h]; simp; omega) (by simpa using h25), Option.bind_some, fin_brk]
  have hdel : ∀ u, m_slices_DeleteFunc_int_int__gleeref2_rowsFor_1 u c.Root c.Kind c.Turn = dfM [] (fun row => m_gleeref2_rowsFor_1 row c.Root c.Kind c.Turn) u := fun _ => rfl
  have e1 : ([[]] : List (List Int)).flatMap (ext T rs) = ext T rs [] := by simp
  rw [e1, hdel, dfM_spec [] _ (fun row => !qB T row) _ (Nat.le_trans (ext_len T rs [] hr.ok) (by omega)) (fun row hrow => by
    have hok := ext_ok hr hrow
    have hlen := hok.len
    have hRV : RV [row] := ⟨by simp, fun is h => by
      rw [List.mem_singleton.1 h]
      exact ⟨by omega, by omega, hok.notes⟩, fun is h js h' => by rw [List.mem_singleton.1 h, List.mem_singleton.1 h']⟩
    unfold m_gleeref2_rowsFor_1
    have hF : m_gleeref2_FitsOf (TChord.mk c.Root c.Kind c.Turn) row = some (fitsB T row) := FitsOf_E hc (by omega) (by omega)
    rw [FaultsOf_spec hRV 0 (by omega), Option.bind_some, faults_one, hF, Option.bind_some]
    unfold qB
    cases hs : stillF 0 row with
    | nil =>
      rw [decide_eq_false (by simp), ifB_false]
      rfl
    | cons a l =>
      rw [decide_eq_true (by rw [List.length_cons]; omega), ifB_true]
      rfl), Option.bind_some]
  have e2 : (fun row => !!qB T row) = qB T := by funext row; rw [Bool.not_not]
  rw [e2, dfs_ext T rs [] (fun i hi => by simp at hi) (fun h => by simp at h)]
theorem dfs_ok {T : List Int} {rs : List TRange} (hr : RR rs) {row : List Int} (h : row ∈ dfs T rs []) : RowOK rs.length row ∧ adj row := by
  rw [dfs_ext T rs [] (fun i hi => by simp at hi) (fun h => by simp at h)] at h
  obtain ⟨h1, h2⟩ := List.mem_filter.1 h
  exact ⟨ext_ok hr h1, (qB_iff.1 h2).1⟩
end Go.G
