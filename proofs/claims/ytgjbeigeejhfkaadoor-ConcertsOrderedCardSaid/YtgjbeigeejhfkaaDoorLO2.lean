/- LO2: how good an order is: the program's rank and the reference's. In plain Lean, no program in sight. -/
import Derived.Test.YtgjbeigeejhfkaaDoorLE
import Derived.Test.YtgjbeigeejhfkaaDoorLO1
import Derived.Test.YtgjbeigeejhfkaaDoorLC4
import Derived.Test.YtgjbeigeejhfkaaDoorLC3b
namespace Go.G
open Go Go.J
theorem cmpS_spec (a b : ByteArray) : m_cmp_Compare_string a b = some (if a.toList < b.toList then -1 else if a.toList = b.toList then 0 else 1) := by
  unfold m_cmp_Compare_string m_cmp_isNaN_string
  have e1 : ∀ z : ByteArray, (!(z.toList == z.toList)) = false := by simp
  rw [e1, e1, Option.bind_some, Option.bind_some, ifB_false, ifB_false, Go.Proofs.bytesLess_eq]
  by_cases h : a.toList < b.toList
  · rw [decide_eq_true h, ifB_true, if_pos h]
  · rw [decide_eq_false h, ifB_false, if_neg h, Bool.false_or]
    by_cases h' : a.toList = b.toList
    · rw [if_pos h', show (a.toList == b.toList) = true by simp [h']]; rfl
    · rw [if_neg h', show (a.toList == b.toList) = false by simpa using h']; rfl
theorem cmp_loop : ∀ (a pre b : List ByteArray), ∃ f c, rangeM (m_slices_Compare_string_string_l1 (pre ++ b)) pre.length a () = some f ∧
    (Flow.fin f fun _ => ifB (decide (((pre.length + a.length : Nat) : Int) < ((pre ++ b).length : Int))) (some (-1)) (some (0 : Int))) = some c ∧ (c < 0 ↔ a.map ByteArray.toList < b.map ByteArray.toList) := by
  intro a
  induction a with
  | nil =>
    intro pre b
    refine ⟨.brk (), if b = [] then 0 else -1, rfl, ?_, ?_⟩
    · rw [fin_brk, ifB_ite]
      cases b with
      | nil => simp
      | cons y t => simp [show ((pre.length : Int) < (pre.length : Int) + ((t.length : Int) + 1)) by omega]
    · cases b with
      | nil => simp
      | cons y t => simp
  | cons x a ih =>
    intro pre b
    rw [rangeM_cons]
    unfold m_slices_Compare_string_string_l1
    cases b with
    | nil =>
      rw [decide_eq_true (by simp), ifB_true, Option.bind_some]
      exact ⟨.ret 1, 1, rfl, rfl, by simp⟩
    | cons y t =>
      rw [decide_eq_false (by simp; omega), ifB_false, getI_of rfl (show (pre ++ y :: t)[pre.length]? = some y by simp), Option.bind_some, cmpS_spec, Option.bind_some]
      by_cases h : x.toList < y.toList
      · rw [if_pos h]
        exact ⟨_, -1, rfl, rfl, by simp [List.cons_lt_cons_iff, h]⟩
      · rw [if_neg h]
        by_cases h' : x.toList = y.toList
        · rw [if_pos h']
          have e := ih (pre ++ [y]) t
          rw [show pre ++ [y] ++ t = pre ++ y :: t by simp, show (pre ++ [y]).length = pre.length + 1 by simp] at e
          obtain ⟨f, c, h1, h2, h3⟩ := e
          refine ⟨f, c, h1, ?_, ?_⟩
          · rw [show pre.length + (x :: a).length = pre.length + 1 + a.length by simp; omega]; exact h2
          · rw [h3, List.map_cons, List.map_cons, List.cons_lt_cons_iff, h']
            simp [List.lt_irrefl]
        · rw [if_neg h']
          refine ⟨_, 1, rfl, rfl, ?_⟩
          rw [List.map_cons, List.map_cons, List.cons_lt_cons_iff]
          simp [h, h']
theorem CompareS_spec (a b : List ByteArray) : ∃ c, m_slices_Compare_string_string a b = some c ∧ (c < 0 ↔ a.map ByteArray.toList < b.map ByteArray.toList) := by
  obtain ⟨f, c, h1, h2, h3⟩ := cmp_loop a [] b
  unfold m_slices_Compare_string_string
  rw [List.nil_append] at h1
  rw [show rangeM (m_slices_Compare_string_string_l1 b) 0 a () = some f from h1, Option.bind_some]
  refine ⟨c, ?_, h3⟩
  rw [← h2]; simp
theorem cmpI_spec (a b : Int) : m_cmp_Compare_int a b = some (if a < b then -1 else if a = b then 0 else 1) := by
  unfold m_cmp_Compare_int m_cmp_isNaN_int
  have e1 : ∀ z : Int, (z != z) = false := by simp
  rw [e1, e1, Option.bind_some, Option.bind_some, ifB_false, ifB_false, ifB_ite, ifB_ite]
  by_cases h : a < b
  · rw [if_pos h, if_pos h]
  · rw [if_neg h, if_neg h]
    by_cases h' : a = b
    · rw [if_pos h', if_neg (by omega)]
    · rw [if_neg h', if_pos (by omega)]
theorem CompareII (a b a' b' : Int) : ∃ c, m_slices_Compare_int_int [a, b] [a', b'] = some c ∧ (c < 0 ↔ (a < a' ∨ a = a' ∧ b < b')) ∧ (c = 0 ↔ a = a' ∧ b = b') := by
  unfold m_slices_Compare_int_int
  rw [rangeM_cons]
  have e0 : rangeM (m_slices_Compare_int_int_l1 [a', b']) (0 + 1) [b] () = (m_slices_Compare_int_int_l1 [a', b'] 1 b ()).bind fun f => f.run (fun s' => some (.brk s')) (fun s' => some (.brk s')) (fun v => some (.ret v)) := rangeM_cons ..
  simp only [e0]
  unfold m_slices_Compare_int_int_l1
  rw [show decide (((0 : Nat) : Int) ≥ (([a', b'] : List Int).length : Int)) = false by simp, ifB_false, getI_of (n := 0) rfl rfl, Option.bind_some, cmpI_spec, Option.bind_some]
  by_cases h : a < a'
  · rw [if_pos h]; exact ⟨-1, rfl, by omega, by omega⟩
  · rw [if_neg h]
    by_cases h' : a = a'
    · rw [if_pos h', show ((0 : Int) != 0) = false from rfl, ifB_false]
      simp only [Option.bind_some]
      rw [show decide (((1 : Nat) : Int) ≥ (([a', b'] : List Int).length : Int)) = false by simp, ifB_false, getI_of (n := 1) rfl rfl, Option.bind_some, cmpI_spec, Option.bind_some]
      show ∃ c, _ ∧ _ ∧ _
      by_cases g : b < b'
      · rw [if_pos g]; exact ⟨-1, rfl, by omega, by omega⟩
      · rw [if_neg g]
        by_cases g' : b = b'
        · rw [if_pos g']; exact ⟨0, rfl, by omega, by omega⟩
        · rw [if_neg g']; exact ⟨1, rfl, by omega, by omega⟩
    · rw [if_neg h']; exact ⟨1, rfl, by omega, by omega⟩
/-! ### parts in common -/
def comB (a b : TItem) : Bool := a.Parts.any fun s => memB s b.Parts
theorem any_ix {α : Type} {p : α → Option Bool} {d : α → Bool} {l : List α} (hp : ∀ x ∈ l, p x = some (d x)) : ((ixM p l).bind fun y => some (decide (y ≥ 0))) = some (l.any d) := by
  obtain ⟨n, h1, h2⟩ := ixM_spec p d l hp
  rw [h1, Option.bind_some]
  rcases h2 with ⟨rfl, h⟩ | ⟨k, rfl, hk, -, x, hx, hd⟩
  · rw [show l.any d = false by rw [List.any_eq_false]; intro x hx; rw [h x hx]; simp]; rfl
  · rw [List.any_eq_true.2 ⟨x, List.mem_of_getElem? hx, hd⟩]; simp
theorem common_spec (a b : TItem) : m_concert_common a b = some (comB a b) := by
  unfold m_concert_common m_slices_ContainsFunc_string_string__concert_common_1
  rw [show m_slices_IndexFunc_string_string__concert_common_1 a.Parts b.Key b.Places b.Long b.Parts = ixM (fun s => m_concert_common_1 s b.Key b.Places b.Long b.Parts) a.Parts from rfl]
  rw [any_ix (d := fun s => memB s b.Parts) (fun s _ => by unfold m_concert_common_1; rw [ContainsS_spec]; rfl)]
  rfl
def comI (p : TProgram) (i : Nat) : Bool := match p.Items[i]?, p.Items[i + 1]? with | some a, some b => decide ((i : Int) ≠ p.Half) && comB a b | _, _ => false
def shN (p : TProgram) : Nat → Int
  | 0 => 0
  | i + 1 => shN p i + if comI p i = true then 1 else 0
theorem shN_rng (p : TProgram) : ∀ i, 0 ≤ shN p i ∧ shN p i ≤ i
  | 0 => by simp [shN]
  | i + 1 => by have := shN_rng p i; unfold shN; split <;> omega
def K (p : TProgram) : Rk := ⟨bg p p.Items.length, shN p (p.Items.length - 1), p.Items.map fun x => x.Key.toList⟩
theorem rankOf_spec {p : TProgram} (h : ProgOK p) : m_concert_rankOf p = some ⟨bg p p.Items.length, shN p (p.Items.length - 1), p.Items.map (·.Key)⟩ := by
  unfold m_concert_rankOf
  rw [begins_spec h, Option.bind_some]
  have hl := h.len
  obtain ⟨s, h1, h2⟩ := rangeM_invx (m_concert_rankOf_l1 p) p.Items (fun i s => s = (shN p (i - 1), (p.Items.take i).map (·.Key))) (by
    rintro i x s hx rfl
    have hi := (List.getElem?_eq_some_iff.1 hx).1
    have hr := shN_rng p (i - 1)
    unfold m_concert_rankOf_l1
    have hk : (p.Items.take i).map (·.Key) ++ [x.Key] = (p.Items.take (i + 1)).map (·.Key) := by
      rw [List.take_add_one, hx]; simp
    rw [appM_of (by simp; omega) (by omega), Option.bind_some, hk]
    by_cases h0 : (i : Int) > 0
    · obtain ⟨j, rfl⟩ : ∃ j, i = j + 1 := ⟨i - 1, by omega⟩
      have e1 : w64 (((j + 1 : Nat) : Int) - 1) = j := by rw [w64_id (by omega)]; omega
      have hj : p.Items[j]? = some p.Items[j] := List.getElem?_eq_getElem (by omega)
      rw [decide_eq_true h0, ifB_true, e1, getI_of rfl hj, Option.bind_some, common_spec, Option.bind_some]
      have e2 : shN p (j + 1 + 1 - 1) = shN p (j + 1 - 1) + if comI p j = true then 1 else 0 := rfl
      have e3 : comI p j = ((decide ((j : Int) ≠ p.Half)) && comB p.Items[j] x) := by unfold comI; rw [hj, hx]
      rw [e2, e3]
      by_cases g : (j : Int) = p.Half
      · rw [show ((j : Int) != p.Half) = false by simpa using g, ifB_false]
        refine ⟨_, rfl, ?_⟩
        simp [g]
      · rw [show ((j : Int) != p.Half) = true by simpa using g, ifB_true]
        cases hc : comB p.Items[j] x with
        | true =>
          rw [ifB_true, w64_id (by omega)]
          exact ⟨_, rfl, by simp [g]⟩
        | false => exact ⟨_, rfl, by simp⟩
    · have : i = 0 := by omega
      subst this
      rw [decide_eq_false h0, ifB_false]
      exact ⟨_, rfl, rfl⟩) (0, []) rfl
  rw [h1, Option.bind_some, fin_brk, h2]
  simp
theorem less_spec (l p : Int) (k : List ByteArray) (l' p' : Int) (k' : List ByteArray) : m_concert_rank_less ⟨l, p, k⟩ ⟨l', p', k'⟩ = some (decide (Rk.lt ⟨l, p, k.map ByteArray.toList⟩ ⟨l', p', k'.map ByteArray.toList⟩)) := by
  unfold m_concert_rank_less
  obtain ⟨c, h1, h2⟩ := CompareS_spec k k'
  by_cases e : l = l'
  · subst e
    rw [show (l != l) = false by simp, ifB_false]
    by_cases f : p = p'
    · subst f
      rw [show (p != p) = false by simp, ifB_false, h1, Option.bind_some]
      congr 1
      rw [decide_eq_decide, h2]
      simp [Rk.lt]
    · rw [show (p != p') = true by simpa using f, ifB_true]
      congr 1
      rw [decide_eq_decide]
      simp [Rk.lt, f]
  · rw [show (l != l') = true by simpa using e, ifB_true]
    congr 1
    rw [decide_eq_decide]
    simp [Rk.lt, e]
end Go.G
