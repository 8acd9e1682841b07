/- LQ5: how good an order is; the search through all orders. In plain Lean, no program in sight. -/
import Derived.Test.YtlkpfhdlfapfhabGreatDoorLO1
import Derived.Test.YtlkpfhdlfapfhabGreatDoorLE0
namespace Go.G
open Go Go.J
theorem cmpS_spec (a b : ByteArray) : m_cmp_Compare_string a b = some (if a.toList < b.toList then -1 else if a.toList = b.toList then 0 else 1) := by
  unfold m_cmp_Compare_string m_cmp_isNaN_string
  have e1 : ∀ z : ByteArray, (!(z.toList == z.toList)) = false := by simp
  rw [e1, e1, Option.bind_some, Option.bind_some, ifB_false, ifB_false, Go.Proofs.bytesLess_eq]
  by_cases h : a.toList < b.toList
  · rw [decide_eq_true h, ifB_true, if_pos h]
  · rw [decide_eq_false h, ifB_false, if_neg h, Bool.false_or]
    by_cases h' : a.toList = b.toList
    · rw [if_pos h', show (a.toList == b.toList) = true by simp [h']]; rfl
    · rw [if_neg h', show (a.toList == b.toList) = false by simpa using h']; rfl
theorem cmp_loop : ∀ (a pre b : List ByteArray), ∃ f c, rangeM (m_slices_Compare_string_string_l1 (pre ++ b)) pre.length a () = some f ∧
    (Flow.fin f fun _ => ifB (decide (((pre.length + a.length : Nat) : Int) < ((pre ++ b).length : Int))) (some (-1)) (some (0 : Int))) = some c ∧ (c < 0 ↔ a.map ByteArray.toList < b.map ByteArray.toList) := by
  intro a
  induction a with
  | nil =>
    intro pre b
    refine ⟨.brk (), if b = [] then 0 else -1, rfl, ?_, ?_⟩
    · rw [fin_brk, ifB_ite]
      cases b with
      | nil => simp
      | cons y t => simp [show ((pre.length : Int) < (pre.length : Int) + ((t.length : Int) + 1)) by omega]
    · cases b with
      | nil => simp
      | cons y t => simp
  | cons x a ih =>
    intro pre b
    rw [rangeM_cons]
    unfold m_slices_Compare_string_string_l1
    cases b with
    | nil =>
      rw [decide_eq_true (by simp), ifB_true, Option.bind_some]
      exact ⟨.ret 1, 1, rfl, rfl, by simp⟩
    | cons y t =>
      rw [decide_eq_false (by simp; omega), ifB_false, getI_of rfl (show (pre ++ y :: t)[pre.length]? = some y by simp), Option.bind_some, cmpS_spec, Option.bind_some]
      by_cases h : x.toList < y.toList
      · rw [if_pos h]
        exact ⟨_, -1, rfl, rfl, by simp [List.cons_lt_cons_iff, h]⟩
      · rw [if_neg h]
        by_cases h' : x.toList = y.toList
        · rw [if_pos h']
          have e := ih (pre ++ [y]) t
          rw [show pre ++ [y] ++ t = pre ++ y :: t by simp, show (pre ++ [y]).length = pre.length + 1 by simp] at e
          obtain ⟨f, c, h1, h2, h3⟩ := e
          refine ⟨f, c, h1, ?_, ?_⟩
          · rw [show pre.length + (x :: a).length = pre.length + 1 + a.length by simp; omega]; exact h2
          · rw [h3, List.map_cons, List.map_cons, List.cons_lt_cons_iff, h']
            simp [List.lt_irrefl]
        · rw [if_neg h']
          refine ⟨_, 1, rfl, rfl, ?_⟩
          rw [List.map_cons, List.map_cons, List.cons_lt_cons_iff]
          simp [h, h']
theorem CompareS_spec (a b : List ByteArray) : ∃ c, m_slices_Compare_string_string a b = some c ∧ (c < 0 ↔ a.map ByteArray.toList < b.map ByteArray.toList) := by
  obtain ⟨f, c, h1, h2, h3⟩ := cmp_loop a [] b
  unfold m_slices_Compare_string_string
  rw [List.nil_append] at h1
  rw [show rangeM (m_slices_Compare_string_string_l1 b) 0 a () = some f from h1, Option.bind_some]
  refine ⟨c, ?_, h3⟩
  rw [← h2]; simp
def comB (a b : TItem) : Bool := a.Parts.any fun s => memB s b.Parts
theorem common_spec (a b : TItem) : m_concert_common a b = some (comB a b) := by
  unfold m_concert_common m_slices_ContainsFunc_string_string__concert_common_1
  rw [show m_slices_IndexFunc_string_string__concert_common_1 a.Parts b.Key b.Places b.Long b.Parts = ixM (fun s => m_concert_common_1 s b.Key b.Places b.Long b.Parts) a.Parts from rfl]
  rw [any_ix (d := fun s => memB s b.Parts) (fun s _ => by unfold m_concert_common_1; rw [ContainsS_spec]; rfl)]
  rfl
def comI (p : TProgram) (i : Nat) : Bool := match p.Items[i]?, p.Items[i + 1]? with | some a, some b => decide ((i : Int) ≠ p.Half) && comB a b | _, _ => false
def shN (p : TProgram) : Nat → Int
  | 0 => 0
  | i + 1 => shN p i + if comI p i = true then 1 else 0
theorem shN_rng (p : TProgram) : ∀ i, 0 ≤ shN p i ∧ shN p i ≤ i
  | 0 => by simp [shN]
  | i + 1 => by have := shN_rng p i; unfold shN; split <;> omega
def K (p : TProgram) : Rk := ⟨bg p p.Items.length, shN p (p.Items.length - 1), p.Items.map fun x => x.Key.toList⟩
theorem rankOf_spec {p : TProgram} (h : ProgOK p) : m_concert_rankOf p = some ⟨bg p p.Items.length, shN p (p.Items.length - 1), p.Items.map (·.Key)⟩ := by
  unfold m_concert_rankOf
  rw [begins_spec h, Option.bind_some]
  have hl := h.len
  obtain ⟨s, h1, h2⟩ := rangeM_invx (m_concert_rankOf_l1 p) p.Items (fun i s => s = (shN p (i - 1), (p.Items.take i).map (·.Key))) (by
    rintro i x s hx rfl
    have hi := (List.getElem?_eq_some_iff.1 hx).1
    have hr := shN_rng p (i - 1)
    unfold m_concert_rankOf_l1
    have hk : (p.Items.take i).map (·.Key) ++ [x.Key] = (p.Items.take (i + 1)).map (·.Key) := by
      rw [List.take_add_one, hx]; simp
    rw [appM_of (by simp; omega) (by omega), Option.bind_some, hk]
    by_cases h0 : (i : Int) > 0
    · obtain ⟨j, rfl⟩ : ∃ j, i = j + 1 := ⟨i - 1, by omega⟩
      have e1 : w64 (((j + 1 : Nat) : Int) - 1) = j := by rw [w64_id (by omega)]; omega
      have hj : p.Items[j]? = some p.Items[j] := List.getElem?_eq_getElem (by omega)
      rw [decide_eq_true h0, ifB_true, e1, getI_of rfl hj, Option.bind_some, common_spec, Option.bind_some]
      have e2 : shN p (j + 1 + 1 - 1) = shN p (j + 1 - 1) + if comI p j = true then 1 else 0 := rfl
      have e3 : comI p j = ((decide ((j : Int) ≠ p.Half)) && comB p.Items[j] x) := by unfold comI; rw [hj, hx]
      rw [e2, e3]
      by_cases g : (j : Int) = p.Half
      · rw [show ((j : Int) != p.Half) = false by simpa using g, ifB_false]
        refine ⟨_, rfl, ?_⟩
        simp [g]
      · rw [show ((j : Int) != p.Half) = true by simpa using g, ifB_true]
        cases hc : comB p.Items[j] x with
        | true =>
          rw [ifB_true, w64_id (by omega)]
          exact ⟨_, rfl, by simp [g]⟩
        | false => exact ⟨_, rfl, by simp⟩
    · have : i = 0 := by omega
      subst this
      rw [decide_eq_false h0, ifB_false]
      exact ⟨_, rfl, rfl⟩) (0, []) rfl
  rw [h1, Option.bind_some, fin_brk, h2]
  simp
theorem less_spec (l p : Int) (k : List ByteArray) (l' p' : Int) (k' : List ByteArray) : m_concert_rank_less ⟨l, p, k⟩ ⟨l', p', k'⟩ = some (decide (Rk.lt ⟨l, p, k.map ByteArray.toList⟩ ⟨l', p', k'.map ByteArray.toList⟩)) := by
  unfold m_concert_rank_less
  obtain ⟨c, h1, h2⟩ := CompareS_spec k k'
  by_cases e : l = l'
  · subst e
    rw [show (l != l) = false by simp, ifB_false]
    by_cases f : p = p'
    · subst f
      rw [show (p != p) = false by simp, ifB_false, h1, Option.bind_some]
      congr 1
      rw [decide_eq_decide, h2]
      simp [Rk.lt]
    · rw [show (p != p') = true by simpa using f, ifB_true]
      congr 1
      rw [decide_eq_decide]
      simp [Rk.lt, f]
  · rw [show (l != l') = true by simpa using e, ifB_true]
    congr 1
    rw [decide_eq_decide]
    simp [Rk.lt, e]
def setI (p : TProgram) (l : List TItem) : TProgram := ⟨l, p.Change, p.Clap, p.Break, p.Half⟩
theorem perm_ok {p : TProgram} (h : ProgOK p) {l : List TItem} (hl : l.Perm p.Items) : ProgOK (setI p l) := by
  constructor
  · show l.length ≤ 60; rw [hl.length_eq]; exact h.len
  · intro i x hx
    obtain ⟨k, hk, rfl⟩ := List.getElem_of_mem (hl.subset (List.mem_of_getElem? hx))
    exact h.item k _ (List.getElem?_eq_getElem hk)
  · exact h.ch1
  · exact h.ch2
  · exact h.cl1
  · exact h.cl2
  · exact h.br1
  · exact h.br2
  · exact h.half1
  · show p.Half = -1 ∨ p.Half + 2 ≤ l.length
    rw [hl.length_eq]; exact h.half2
def foundA (p : TProgram) (b : Option (List TItem)) : Bool × Int × Int × List ByteArray :=
  match b with
  | none => (false, 0, 0, [])
  | some l => (true, bg (setI p l) l.length, shN (setI p l) (l.length - 1), l.map (·.Key))
abbrev KP (p : TProgram) (l : List TItem) : Rk := K (setI p l)
theorem Order_1_spec {p : TProgram} (h : ProgOK p) {l : List TItem} (hl : l.Perm p.Items) (b : Option (List TItem)) :
    m_concert_Order_1 l p.Change p.Clap p.Break p.Half (foundA p b).1 (foundA p b).2.1 (foundA p b).2.2.1 (foundA p b).2.2.2 = some (foundA p (best1 (KP p) b l)) := by
  unfold m_concert_Order_1
  have hr := rankOf_spec (perm_ok h hl)
  unfold setI at hr
  rw [hr, Option.bind_some]
  cases b with
  | none => rfl
  | some y =>
    unfold foundA
    simp only [Bool.not_true, ifB_false]
    rw [less_spec, Option.bind_some, Option.bind_some, fin_inl, ifB_ite]
    unfold best1
    simp only
    have e : (Rk.lt ⟨bg (setI p l) l.length, shN (setI p l) (l.length - 1), (l.map (·.Key)).map ByteArray.toList⟩ ⟨bg (setI p y) y.length, shN (setI p y) (y.length - 1), (y.map (·.Key)).map ByteArray.toList⟩) ↔ (KP p l).lt (KP p y) := by
      rw [List.map_map, List.map_map]; exact Iff.rfl
    by_cases g : (KP p l).lt (KP p y)
    · rw [if_pos g]
      have g' := e.2 g
      unfold setI at g' ⊢
      rw [if_pos g']
    · rw [if_neg g]
      have g' := fun q => g (e.1 q)
      unfold setI at g' ⊢
      rw [if_neg g']
theorem swp_model {l : List TItem} {i j : Nat} {a b : TItem} (ha : l[i]? = some a) (hb : l[j]? = some b) : (l.set i b).set j a = swp l i j := (swp_of ha hb).symm
theorem orders_spec {p : TProgram} (h : ProgOK p) (hn : p.Items.length ≤ 7) : ∀ (d fu : Nat), d < fu → d ≤ p.Items.length → ∀ (l : List TItem), l.Perm p.Items → ∀ b : Option (List TItem),
    m_concert_orders__al__concert_Order_1 fu ((p.Items.length - d : Nat) : Int) l p.Change p.Clap p.Break p.Half (foundA p b).1 (foundA p b).2.1 (foundA p b).2.2.1 (foundA p b).2.2.2 =
      some (l, foundA p ((ords p.Items.length d l).foldl (best1 (KP p)) b)) := by
  intro d
  induction d with
  | zero =>
    intro fu hfu _ l hl b
    obtain ⟨fu, rfl⟩ : ∃ k, fu = k + 1 := ⟨fu - 1, by omega⟩
    unfold m_concert_orders__al__concert_Order_1 m_concert_orders__al__concert_Order_1_b
    rw [show (((p.Items.length - 0 : Nat) : Int) == (l.length : Int)) = true by rw [hl.length_eq]; simp, ifB_true, Order_1_spec h hl, Option.bind_some]
    rfl
  | succ d ih =>
    intro fu hfu hd l hl b
    obtain ⟨fu, rfl⟩ : ∃ k, fu = k + 1 := ⟨fu - 1, by omega⟩
    have hll := hl.length_eq
    generalize hm : p.Items.length - (d + 1) = m
    have hm1 : p.Items.length - d = m + 1 := by omega
    unfold m_concert_orders__al__concert_Order_1 m_concert_orders__al__concert_Order_1_b
    rw [show (((m : Nat) : Int) == (l.length : Int)) = false by simp; omega, ifB_false]
    -- the loop
    obtain ⟨f, h1, h2⟩ := loopM_post (m_concert_orders__al__concert_Order_1_l1 (m : Int) p.Change p.Clap p.Break p.Half (m_concert_orders__al__concert_Order_1 fu))
      (fun s => ∃ i : Nat, m ≤ i ∧ i ≤ p.Items.length ∧ s.1 = i ∧ s.2.2.2.2.1 = l ∧
        (s.2.1, s.2.2.1, s.2.2.2.1, s.2.2.2.2.2) = foundA p (((List.range' m (i - m)).flatMap fun k => ords p.Items.length d (swp l m k)).foldl (best1 (KP p)) b))
      (fun s => (p.Items.length - s.1).toNat)
      (fun f => ∃ s, f = .brk s ∧ s.2.2.2.2.1 = l ∧ (s.2.1, s.2.2.1, s.2.2.2.1, s.2.2.2.2.2) = foundA p ((ords p.Items.length (d + 1) l).foldl (best1 (KP p)) b))
      (by
        rintro ⟨i', s1, s2, s3, l', s4⟩ ⟨i, g1, g2, rfl, gl, g3⟩
        simp only at g3 gl
        subst gl
        unfold m_concert_orders__al__concert_Order_1_l1
        simp only
        by_cases hi : (i : Int) < (l'.length : Int)
        · rw [decide_eq_true hi, ifB_true]
          have hil : i < l'.length := by omega
          have hml : m < l'.length := by omega
          have e1 : l'[i]? = some l'[i] := List.getElem?_eq_getElem hil
          have e2 : l'[m]? = some l'[m] := List.getElem?_eq_getElem hml
          rw [getI_of rfl e1, Option.bind_some, getI_of rfl e2, Option.bind_some, Option.bind_some]
          simp only [Int.toNat_natCast]
          have e3 : (l'.set m l'[i])[i]? = some ((l'.set m l'[i])[i]'(by simpa using hil)) := List.getElem?_eq_getElem _
          rw [getI_of rfl e3, Option.bind_some, swp_model e2 e1, show w64 ((m : Int) + 1) = ((p.Items.length - d : Nat) : Int) by rw [w64_id (by omega)]; omega]
          have e4 := congrArg (fun z => z.1) g3
          have e5 := congrArg (fun z => z.2.1) g3
          have e6 := congrArg (fun z => z.2.2.1) g3
          have e7 := congrArg (fun z => z.2.2.2) g3
          simp only at e4 e5 e6 e7
          have hp : (swp l' m i).Perm p.Items := (swp_perm hml hil).trans hl
          rw [e4, e5, e6, e7, ih fu (by omega) (by omega) _ hp, Option.bind_some]
          simp only
          have e8 : (swp l' m i)[i]? = some l'[m] := by rw [swp_get hml hil, if_pos rfl, e2]
          have e9 : (swp l' m i)[m]? = some l'[i] := by
            rw [swp_get hml hil]
            split
            · rename_i he; subst he; exact e2
            · rw [if_pos rfl, e1]
          rw [getI_of rfl e8, Option.bind_some, getI_of rfl e9, Option.bind_some, Option.bind_some]
          have e10 : ((swp l' m i).set m l'[m])[i]? = some (((swp l' m i).set m l'[m])[i]'(by simpa [swp_len] using hil)) := List.getElem?_eq_getElem _
          rw [getI_of rfl e10, Option.bind_some, swp_model e9 e8, swp_swp hml hil]
          refine .inl ⟨_, rfl, ⟨i + 1, by omega, by omega, by rw [w64_id (by omega)]; rfl, rfl, ?_⟩, by simp only; rw [w64_id (by omega)]; omega⟩
          rw [show i + 1 - m = (i - m) + 1 by omega, List.range'_1_concat, show m + (i - m) = i by omega, List.flatMap_append, List.foldl_append]
          simp
        · rw [decide_eq_false hi, ifB_false]
          refine .inr (.inl ⟨_, rfl, _, rfl, rfl, ?_⟩)
          simp only
          rw [g3, ords, hm, show i - m = d + 1 by omega])
      ((m : Int), (foundA p b).1, (foundA p b).2.1, (foundA p b).2.2.1, l, (foundA p b).2.2.2) ⟨m, by omega, by omega, rfl, rfl, by simp⟩
    obtain ⟨s, rfl, h3, h4⟩ := h2
    rw [h1, Option.bind_some, fin_brk, h3, h4]
end Go.G
