/- LT3: texts that are drawn and changed; numbers that are read in a row. In plain Lean, no program in sight. -/
import Derived.Test.YtlhfimbpjdfdgabGreatDoorLT2
namespace Go.G
open Go Go.J
set_option linter.unusedSimpArgs false
set_option linter.unusedVariables false
theorem Changed_spec (L : List Int) {q : Int} (t v : ByteArray) (hq : 0 ≤ q) (hq' : q ≤ 999000000) (ht : t.size ≤ 1000000) (hv : 1 ≤ v.size ∧ v.size ≤ 12) : ∃ t' q', m_gleemake_Stream_Changed L q t v = some (t', q') ∧ q ≤ q' ∧ q' ≤ q + 3 ∧ t'.size ≤ 2 * t.size + 12 := by
  unfold m_gleemake_Stream_Changed
  rw [ba_empty, ba_empty]
  by_cases h0 : t.size = 0
  · rw [decide_eq_true h0]
    exact ⟨v, q, rfl, by omega, by omega, by omega⟩
  · rw [decide_eq_false h0, decide_eq_false (by omega), ifB_false, Option.bind_some, fin_inl, ifB_false]
    obtain ⟨i, hi, hi0, hi1⟩ := Next_spec L (p := q) (n := t.size) (by omega) (by omega) (by omega)
    have hi1 : i < t.size := by first | exact hi1 (by omega) | exact hi1.1 (by omega)
    obtain ⟨j, hj, hj0, hj1⟩ := Next_spec L (p := q + 1) (n := v.size) (by omega) (by omega) (by omega)
    have hj1 : j < v.size := by first | exact hj1 (by omega) | exact hj1.1 (by omega)
    obtain ⟨c, hc⟩ : ∃ c, strI v j = some c := by
      have := strI_nat v j.toNat
      rw [show ((j.toNat : Nat) : Int) = j by omega, List.getElem?_eq_getElem (by rw [← size_data]; omega)] at this
      exact ⟨_, this⟩
    obtain ⟨m, hm, -⟩ := Next_spec L (p := q + 1 + 1) (n := 3) (by omega) (by omega) (by omega)
    have he := encode_size (IntKind.wrap .i32 c)
    obtain ⟨d1, g1, g2⟩ := strS_of (s := t) (a := 0) (b := i) (by omega)
    obtain ⟨d2, g3, g4⟩ := strS_of (s := t) (a := i + 1) (b := t.size) (by omega)
    obtain ⟨d3, g5, g6⟩ := strS_of (s := t) (a := i) (b := t.size) (by omega)
    rw [hi, Option.bind_some]
    simp only
    rw [hj, Option.bind_some]
    simp only
    rw [hc, Option.bind_some, hm, Option.bind_some]
    simp only
    rw [w64_id (by omega), g1, g3, g5]
    simp only [Option.bind_some]
    have k1 : catM d1 (Utf8.encode (IntKind.wrap .i32 c)) = some (d1 ++ Utf8.encode (IntKind.wrap .i32 c)) := catM_of (by omega)
    have k2 : catM (d1 ++ Utf8.encode (IntKind.wrap .i32 c)) d2 = some (d1 ++ Utf8.encode (IntKind.wrap .i32 c) ++ d2) := catM_of (by rw [ba_app]; omega)
    have k3 : catM (d1 ++ Utf8.encode (IntKind.wrap .i32 c)) d3 = some (d1 ++ Utf8.encode (IntKind.wrap .i32 c) ++ d3) := catM_of (by rw [ba_app]; omega)
    have k4 : catM d1 d2 = some (d1 ++ d2) := catM_of (by omega)
    rw [k1, k4]
    simp only [Option.bind_some, k2, k3]
    cases (m == 0) with
    | true => exact ⟨_, _, rfl, by omega, by omega, by rw [ba_app, ba_app]; omega⟩
    | false =>
      cases (m == 1) with
      | true => exact ⟨_, _, rfl, by omega, by omega, by rw [ba_app, ba_app]; omega⟩
      | false => exact ⟨_, _, rfl, by omega, by omega, by rw [ba_app]; omega⟩
/-! numbers in a row -/
def allN : List ByteArray → Option (List Int)
  | [] => some []
  | x :: t => match numB x with
    | none => none
    | some n => (allN t).map (n :: ·)
theorem allN_cons (x : ByteArray) (t : List ByteArray) : allN (x :: t) = (match numB x with
    | none => none
    | some n => (allN t).map (n :: ·)) := rfl
theorem numsIn_loop : ∀ (l : List ByteArray) (i : Nat) (b : Bool) (u : List Int), (∀ x ∈ l, x.size ≤ 1000000) → u.length + l.length ≤ 1000000 →
    ∃ r, rangeM (m_gleeref2_NumbersIn_l1 15) i l (b, u) = some (.brk (b && (allN l).isSome, u ++ r)) ∧ r.length = l.length ∧ ∀ r', allN l = some r' → r = r' := by
  intro l
  induction l with
  | nil => intro i b u _ _; exact ⟨[], by simp [allN], rfl, fun r' h => by cases h; rfl⟩
  | cons x t ih =>
    intro i b u hs hu
    simp only [List.length_cons] at hu
    obtain ⟨n', h1, h2⟩ := (Number_spec x (hs x (List.mem_cons_self ..))).2
    have hstep : m_gleeref2_NumbersIn_l1 15 i x (b, u) = some (.nxt (b && (numB x).isSome, u ++ [n'])) := by
      unfold m_gleeref2_NumbersIn_l1
      rw [h1, Option.bind_some]
      simp only
      rw [appM_of (by simp; omega) (by omega), Option.bind_some]
      cases b <;> rfl
    obtain ⟨r, g1, g2, g3⟩ := ih (i + 1) (b && (numB x).isSome) (u ++ [n']) (fun z hz => hs z (List.mem_cons_of_mem _ hz)) (by simp; omega)
    refine ⟨n' :: r, ?_, by simp [g2], fun r' h => ?_⟩
    · rw [rangeM_cons, hstep, Option.bind_some, run_nxt, g1]
      congr 2
      · simp only [List.append_assoc, List.cons_append, List.nil_append, Prod.mk.injEq, and_true]
        rw [allN_cons]
        cases numB x with
        | none => simp
        | some n => cases allN t <;> simp
    · rw [allN_cons] at h
      cases hx : numB x with
      | none => rw [hx] at h; cases h
      | some n =>
        rw [hx] at h
        obtain ⟨r2, hr, rfl⟩ := Option.map_eq_some_iff.1 h
        rw [h2 n hx, g3 r2 hr]
theorem numsIn_spec (l : List ByteArray) (hs : ∀ x ∈ l, x.size ≤ 1000000) (hl : l.length ≤ 1000000) : ∃ r, m_gleeref2_NumbersIn l 15 = some (r, (allN l).isSome) ∧ r.length = l.length ∧ ∀ r', allN l = some r' → r = r' := by
  obtain ⟨r, h1, h2, h3⟩ := numsIn_loop l 0 true [] hs (by simpa using hl)
  refine ⟨r, ?_, h2, h3⟩
  unfold m_gleeref2_NumbersIn
  rw [h1, Option.bind_some, fin_brk]
  simp
theorem spl_size {c : UInt8} {s : BL} {x : BL} (h : x ∈ spl c s) : x.length ≤ s.length := by
  have key : ∀ (s : BL) (x : BL), x ∈ spl c s → x.length ≤ s.length := by
    intro s
    induction s with
    | nil => intro x hx; simp [spl] at hx; rw [hx]; simp
    | cons b t ih =>
      intro x hx
      unfold spl at hx
      split at hx
      · rcases List.mem_cons.1 hx with hx | hx
        · rw [hx]; simp
        · have := ih x hx; simp only [List.length_cons]; omega
      · split at hx
        · simp at hx; rw [hx]; simp
        · rename_i hd r hs
          rcases List.mem_cons.1 hx with hx | hx
          · have := ih hd (by rw [hs]; exact List.mem_cons_self ..)
            rw [hx]; simp only [List.length_cons]; omega
          · have := ih x (by rw [hs]; exact List.mem_cons_of_mem _ hx)
            simp only [List.length_cons]; omega
  exact key s x h
theorem lines_size {s x : BL} (h : x ∈ linesOf s) : x.length ≤ s.length := spl_size (List.dropLast_subset _ h)
theorem left_size (s : BL) : (leftOf s).length ≤ s.length := spl_size (List.getLast_mem _)
theorem lines_len (s : BL) : (linesOf s).length ≤ s.length := by
  unfold linesOf
  rw [List.length_dropLast]
  have := spl_len 10 s
  omega
end Go.G
