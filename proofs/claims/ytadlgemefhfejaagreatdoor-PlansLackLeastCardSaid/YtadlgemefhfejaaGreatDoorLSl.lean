/- LSl: slots: what is wrong with them, by both ways. In plain Lean, no program in sight. -/
import Derived.Test.YtadlgemefhfejaaGreatDoorLKr
import Derived.Test.YtadlgemefhfejaaGreatDoorLS1
import Derived.Test.YtadlgemefhfejaaGreatDoorLG1
import Derived.Sort.Walk0
namespace Go.G
open Go Go.J
set_option linter.unusedSimpArgs false
set_option linter.unusedVariables false
def sameB (a b : ByteArray) : Bool := a.toList == b.toList
theorem sameB_iff {a b : ByteArray} : sameB a b = true ↔ a = b := by unfold sameB; rw [beq_iff_eq]; exact ba_toList_inj
/-! names that rise -/
theorem names_eq (l : List ByteArray) : m_rehearse_namesFault l = m_gleeref2_Rising l := by
  unfold m_rehearse_namesFault m_gleeref2_Rising
  have : m_rehearse_namesFault_l1 l = m_gleeref2_Rising_l1 l := by
    funext i x u
    unfold m_rehearse_namesFault_l1 m_gleeref2_Rising_l1
    rw [IsKey_eq]
  rw [this]
theorem Rising_ok (l : List ByteArray) (hl : l.length ≤ 1000000) : ∃ e, m_gleeref2_Rising l = some e ∧ (e = 0 → ∀ z ∈ l, isKey z = true) := by
  unfold m_gleeref2_Rising
  obtain ⟨f, h, hq⟩ := rangeM_stop (m_gleeref2_Rising_l1 l) l (fun n _ => ∀ (i : Nat) z, i < n → l[i]? = some z → isKey z = true) (fun f => match f with | .nxt _ => False | .brk _ => ∀ z ∈ l, isKey z = true | .ret e => e ≠ 0) (by
    intro i x s hx hI
    have hi := (List.getElem?_eq_some_iff.1 hx).1
    unfold m_gleeref2_Rising_l1
    rw [isKey_ref, Option.bind_some]
    cases hk : isKey x with
    | false => exact ⟨.ret 5, rfl, by simp, by simp, by simp⟩
    | true =>
      have hb : ∃ b, ((ifB (decide ((i : Int) > 0)) ((getI l (w64 ((i : Int) - 1))).bind fun e12 => some (.inl (Op.bytesLess x.toList e12.toList || x.toList == e12.toList))) (some (.inl false)) : Option (Bool ⊕ (Flow Unit Int)))) = some (.inl b) := by
        by_cases h0 : i = 0
        · exact ⟨false, by rw [decide_eq_false (by omega)]; rfl⟩
        · rw [decide_eq_true (by omega), ifB_true, w64_id (by omega), getI_of (n := i - 1) (by omega) (List.getElem?_eq_getElem (by omega)), Option.bind_some]
          exact ⟨_, rfl⟩
      obtain ⟨b, hb⟩ := hb
      rw [Bool.not_true, ifB_false, hb]
      cases b with
      | true => exact ⟨.ret 7, rfl, by simp, by simp, by simp⟩
      | false =>
        refine ⟨.nxt (), rfl, fun s' _ j z hj hz => ?_, by simp, by simp⟩
        by_cases hji : j < i
        · exact hI j z hji hz
        · have : j = i := by omega
          subst this
          rw [hx] at hz; cases hz
          exact hk) (fun s hI z hz => by
      obtain ⟨i, hi, he⟩ := List.getElem_of_mem hz
      exact hI i z hi (by rw [List.getElem?_eq_getElem hi, he])) () (fun i z hi => by omega)
  rw [h, Option.bind_some]
  cases f with
  | nxt s => exact hq.elim
  | brk s => exact ⟨0, rfl, fun _ => hq⟩
  | ret e => exact ⟨e, rfl, fun h => absurd h hq⟩
noncomputable def risF (l : List ByteArray) : Int := (m_gleeref2_Rising l).getD 0
theorem Rising_F (l : List ByteArray) (hl : l.length ≤ 1000000) : m_gleeref2_Rising l = some (risF l) := by
  obtain ⟨e, h, -⟩ := Rising_ok l hl
  unfold risF
  rw [h]; rfl
/-! one slot -/
def isT (w : TWindow) : Bool := decide (0 ≤ w.From ∧ w.From < w.To ∧ w.To ≤ 345686400000)
theorem IsTime_T (w : TWindow) : m_kit_IsTime w = some (isT w) := by
  unfold m_kit_IsTime isT
  by_cases h1 : w.From ≥ 0
  · by_cases h2 : w.From < w.To
    · rw [decide_eq_true h1, decide_eq_true h2, ifB_true, ifB_true]
      by_cases h3 : w.To ≤ 345686400000
      · rw [decide_eq_true h3, decide_eq_true ⟨h1, h2, h3⟩]
      · rw [decide_eq_false h3, decide_eq_false (fun g => h3 g.2.2)]
    · rw [decide_eq_true h1, decide_eq_false h2, ifB_true, ifB_false, decide_eq_false (fun g => h2 g.2.1)]
  · rw [decide_eq_false h1, ifB_false, decide_eq_false (fun g => h1 g.1)]
theorem timeFault_T (w : TWindow) : m_gleeref2_timeFault w = some (bif isT w then 0 else 1) := by
  unfold m_gleeref2_timeFault isT
  by_cases h1 : w.From < 0
  · rw [decide_eq_true h1, ifB_true, decide_eq_false (by omega)]; rfl
  · by_cases h2 : w.From ≥ w.To
    · rw [decide_eq_false h1, decide_eq_true h2, ifB_false, ifB_true, decide_eq_false (by omega)]; rfl
    · by_cases h3 : w.To > 345686400000
      · rw [decide_eq_false h1, decide_eq_false h2, decide_eq_true h3, ifB_false, ifB_false, decide_eq_false (by omega)]; rfl
      · rw [decide_eq_false h1, decide_eq_false h2, decide_eq_false h3, ifB_false, ifB_false, decide_eq_true (by omega)]; rfl
theorem Or_two (a b : Int) : m_cmp_Or_int [a, b] = some (bif a != 0 then a else b) := by
  unfold m_cmp_Or_int
  rw [rangeM_cons]
  unfold m_cmp_Or_int_l1
  cases h1 : (a != 0)
  · rw [ifB_false, Option.bind_some, run_nxt, rangeM_cons]
    cases h2 : (b != 0)
    · have : b = 0 := by simpa using h2
      simp [this]
    · simp
  · simp
theorem cI_s (a b : Int) : m_cmp_Compare_int a b = some (bif decide (a < b) then -1 else bif decide (a > b) then 1 else 0) := by
  unfold m_cmp_Compare_int m_cmp_isNaN_int
  simp only [Option.bind_some, bne_self_eq_false]
  by_cases h1 : a < b
  · simp [h1]
  · by_cases h2 : b < a
    · simp [h1, h2]
    · simp [h1, h2]
def out1S (e : Int) : Flow Unit Int := bif e != 0 then .ret e else .nxt ()
theorem bl_or (x p : ByteArray) : (Op.bytesLess x.toList p.toList || x.toList == p.toList) = !decide (bytesOf p < bytesOf x) := by
  rw [Go.Proofs.bytesLess_eq]
  have ex : x.toList = bytesOf x := ByteArray.toList_eq x
  have ep : p.toList = bytesOf p := ByteArray.toList_eq p
  rw [ex, ep]
  rcases bs_tri (bytesOf x) (bytesOf p) with h | h | h
  · rw [decide_eq_true h, decide_eq_false (bs_asym h)]; rfl
  · rw [h, decide_eq_false (bs_irr _)]; simp
  · rw [decide_eq_false (bs_asym h), decide_eq_true h, show (bytesOf x == bytesOf p) = false by
      rw [beq_eq_false_iff_ne]
      intro e
      rw [e] at h
      exact bs_irr _ h]; rfl
/-! slots that meet -/
def meetB (a b : TWindow) : Bool := decide (a.From < b.To) && decide (b.From < a.To)
/-! slots -/
end Go.G
