/- LO3: the program's search through all orders. In plain Lean, no program in sight. -/
import Derived.Test.YtgjbeigeejhfkaaDoorLO2
namespace Go.G
open Go Go.J
def setI (p : TProgram) (l : List TItem) : TProgram := ⟨l, p.Change, p.Clap, p.Break, p.Half⟩
theorem perm_ok {p : TProgram} (h : ProgOK p) {l : List TItem} (hl : l.Perm p.Items) : ProgOK (setI p l) := by
  constructor
  · show l.length ≤ 60; rw [hl.length_eq]; exact h.len
  · intro i x hx
    obtain ⟨k, hk, rfl⟩ := List.getElem_of_mem (hl.subset (List.mem_of_getElem? hx))
    exact h.item k _ (List.getElem?_eq_getElem hk)
  · exact h.ch1
  · exact h.ch2
  · exact h.cl1
  · exact h.cl2
  · exact h.br1
  · exact h.br2
  · exact h.half1
  · show p.Half = -1 ∨ p.Half + 2 ≤ l.length
    rw [hl.length_eq]; exact h.half2
/-- what the search has found, as the program keeps it -/
def foundA (p : TProgram) (b : Option (List TItem)) : Bool × Int × Int × List ByteArray :=
  match b with
  | none => (false, 0, 0, [])
  | some l => (true, bg (setI p l) l.length, shN (setI p l) (l.length - 1), l.map (·.Key))
abbrev KP (p : TProgram) (l : List TItem) : Rk := K (setI p l)
theorem Order_1_spec {p : TProgram} (h : ProgOK p) {l : List TItem} (hl : l.Perm p.Items) (b : Option (List TItem)) :
    m_concert_Order_1 l p.Change p.Clap p.Break p.Half (foundA p b).1 (foundA p b).2.1 (foundA p b).2.2.1 (foundA p b).2.2.2 = some (foundA p (best1 (KP p) b l)) := by
  unfold m_concert_Order_1
  have hr := rankOf_spec (perm_ok h hl)
  unfold setI at hr
  rw [hr, Option.bind_some]
  cases b with
  | none => rfl
  | some y =>
    unfold foundA
    simp only [Bool.not_true, ifB_false]
    rw [less_spec, Option.bind_some, Option.bind_some, fin_inl, ifB_ite]
    unfold best1
    simp only
    have e : (Rk.lt ⟨bg (setI p l) l.length, shN (setI p l) (l.length - 1), (l.map (·.Key)).map ByteArray.toList⟩ ⟨bg (setI p y) y.length, shN (setI p y) (y.length - 1), (y.map (·.Key)).map ByteArray.toList⟩) ↔ (KP p l).lt (KP p y) := by
      rw [List.map_map, List.map_map]; exact Iff.rfl
    by_cases g : (KP p l).lt (KP p y)
    · rw [if_pos g]
      have g' := e.2 g
      unfold setI at g' ⊢
      rw [if_pos g']
    · rw [if_neg g]
      have g' := fun q => g (e.1 q)
      unfold setI at g' ⊢
      rw [if_neg g']
theorem swp_model {l : List TItem} {i j : Nat} {a b : TItem} (ha : l[i]? = some a) (hb : l[j]? = some b) : (l.set i b).set j a = swp l i j := (swp_of ha hb).symm
theorem orders_spec {p : TProgram} (h : ProgOK p) (hn : p.Items.length ≤ 7) : ∀ (d fu : Nat), d < fu → d ≤ p.Items.length → ∀ (l : List TItem), l.Perm p.Items → ∀ b : Option (List TItem),
    m_concert_orders__al__concert_Order_1 fu ((p.Items.length - d : Nat) : Int) l p.Change p.Clap p.Break p.Half (foundA p b).1 (foundA p b).2.1 (foundA p b).2.2.1 (foundA p b).2.2.2 =
      some (l, foundA p ((ords p.Items.length d l).foldl (best1 (KP p)) b)) := by
  intro d
  induction d with
  | zero =>
    intro fu hfu _ l hl b
    obtain ⟨fu, rfl⟩ : ∃ k, fu = k + 1 := ⟨fu - 1, by omega⟩
    unfold m_concert_orders__al__concert_Order_1 m_concert_orders__al__concert_Order_1_b
    rw [show (((p.Items.length - 0 : Nat) : Int) == (l.length : Int)) = true by rw [hl.length_eq]; simp, ifB_true, Order_1_spec h hl, Option.bind_some]
    rfl
  | succ d ih =>
    intro fu hfu hd l hl b
    obtain ⟨fu, rfl⟩ : ∃ k, fu = k + 1 := ⟨fu - 1, by omega⟩
    have hll := hl.length_eq
    generalize hm : p.Items.length - (d + 1) = m
    have hm1 : p.Items.length - d = m + 1 := by omega
    unfold m_concert_orders__al__concert_Order_1 m_concert_orders__al__concert_Order_1_b
    rw [show (((m : Nat) : Int) == (l.length : Int)) = false by simp; omega, ifB_false]
    -- the loop
    obtain ⟨f, h1, h2⟩ := loopM_post (m_concert_orders__al__concert_Order_1_l1 (m : Int) p.Change p.Clap p.Break p.Half (m_concert_orders__al__concert_Order_1 fu))
      (fun s => ∃ i : Nat, m ≤ i ∧ i ≤ p.Items.length ∧ s.1 = i ∧ s.2.2.2.2.1 = l ∧
        (s.2.1, s.2.2.1, s.2.2.2.1, s.2.2.2.2.2) = foundA p (((List.range' m (i - m)).flatMap fun k => ords p.Items.length d (swp l m k)).foldl (best1 (KP p)) b))
      (fun s => (p.Items.length - s.1).toNat)
      (fun f => ∃ s, f = .brk s ∧ s.2.2.2.2.1 = l ∧ (s.2.1, s.2.2.1, s.2.2.2.1, s.2.2.2.2.2) = foundA p ((ords p.Items.length (d + 1) l).foldl (best1 (KP p)) b))
      (by
        rintro ⟨i', s1, s2, s3, l', s4⟩ ⟨i, g1, g2, rfl, gl, g3⟩
        simp only at g3 gl
        subst gl
        unfold m_concert_orders__al__concert_Order_1_l1
        simp only
        by_cases hi : (i : Int) < (l'.length : Int)
        · rw [decide_eq_true hi, ifB_true]
          have hil : i < l'.length := by omega
          have hml : m < l'.length := by omega
          have e1 : l'[i]? = some l'[i] := List.getElem?_eq_getElem hil
          have e2 : l'[m]? = some l'[m] := List.getElem?_eq_getElem hml
          rw [getI_of rfl e1, Option.bind_some, getI_of rfl e2, Option.bind_some, Option.bind_some]
          simp only [Int.toNat_natCast]
          have e3 : (l'.set m l'[i])[i]? = some ((l'.set m l'[i])[i]'(by simpa using hil)) := List.getElem?_eq_getElem _
          rw [getI_of rfl e3, Option.bind_some, swp_model e2 e1, show w64 ((m : Int) + 1) = ((p.Items.length - d : Nat) : Int) by rw [w64_id (by omega)]; omega]
          have e4 := congrArg (fun z => z.1) g3
          have e5 := congrArg (fun z => z.2.1) g3
          have e6 := congrArg (fun z => z.2.2.1) g3
          have e7 := congrArg (fun z => z.2.2.2) g3
          simp only at e4 e5 e6 e7
          have hp : (swp l' m i).Perm p.Items := (swp_perm hml hil).trans hl
          rw [e4, e5, e6, e7, ih fu (by omega) (by omega) _ hp, Option.bind_some]
          simp only
          have e8 : (swp l' m i)[i]? = some l'[m] := by rw [swp_get hml hil, if_pos rfl, e2]
          have e9 : (swp l' m i)[m]? = some l'[i] := by
            rw [swp_get hml hil]
            split
            · rename_i he; subst he; exact e2
            · rw [if_pos rfl, e1]
          rw [getI_of rfl e8, Option.bind_some, getI_of rfl e9, Option.bind_some, Option.bind_some]
          have e10 : ((swp l' m i).set m l'[m])[i]? = some (((swp l' m i).set m l'[m])[i]'(by simpa [swp_len] using hil)) := List.getElem?_eq_getElem _
          rw [getI_of rfl e10, Option.bind_some, swp_model e9 e8, swp_swp hml hil]
          refine .inl ⟨_, rfl, ⟨i + 1, by omega, by omega, by rw [w64_id (by omega)]; rfl, rfl, ?_⟩, by simp only; rw [w64_id (by omega)]; omega⟩
          rw [show i + 1 - m = (i - m) + 1 by omega, List.range'_1_concat, show m + (i - m) = i by omega, List.flatMap_append, List.foldl_append]
          simp
        · rw [decide_eq_false hi, ifB_false]
          refine .inr (.inl ⟨_, rfl, _, rfl, rfl, ?_⟩)
          simp only
          rw [g3, ords, hm, show i - m = d + 1 by omega])
      ((m : Int), (foundA p b).1, (foundA p b).2.1, (foundA p b).2.2.1, l, (foundA p b).2.2.2) ⟨m, by omega, by omega, rfl, rfl, by simp⟩
    obtain ⟨s, rfl, h3, h4⟩ := h2
    rw [h1, Option.bind_some, fin_brk, h3, h4]
end Go.G
