/- LTr: tones as words: the reference's reading; lines of tones. In plain Lean, no program in sight. -/
import Derived.Test.YtlhfimbpjdfdgabGreatDoorLTm
import Derived.Test.YtlhfimbpjdfdgabGreatDoorLT4
namespace Go.G
open Go Go.J
set_option linter.unusedSimpArgs false
set_option linter.unusedVariables false
def zeroT : TTone := TTone.mk 0 (TFraction.mk 0 0) ByteArray.empty false
theorem spl_two {l p q : BL} (h : l = p ++ 47 :: q) (hp : (47 : UInt8) ∉ p) (hq : (47 : UInt8) ∉ q) : spl 47 l = [p, q] := by
  rw [h, spl_app 47 p q hp, spl_none 47 q hq]
theorem spl_more {l p q : BL} (h : l = p ++ 47 :: q) (hp : (47 : UInt8) ∉ p) (hq : (47 : UInt8) ∈ q) : 3 ≤ (spl 47 l).length := by
  rw [h, spl_app 47 p q hp]
  cases hc : cut1 47 q with
  | none => exact absurd hq (cut1_none 47 q hc)
  | some pq =>
    obtain ⟨p', q'⟩ := pq
    obtain ⟨e1, e2⟩ := cut1_some 47 q p' q' hc
    rw [e1, spl_app 47 p' q' e2]
    have := List.length_pos_iff.2 (spl_ne 47 q')
    simp only [List.length_cons]; omega
theorem refTail (y2 : List ByteArray) (b t : BL) (nb : Bool) (nn : Int) (no : Option Int) (hb : b.length ≤ 1000000) (h1 : getI y2 1 = some (toB b))
    (h3 : (ifB ((y2.length : Int) == 3) ((getI y2 2).bind fun e26 => some (.inl e26)) (some (.inl ByteArray.empty)) : Option (ByteArray ⊕ (TTone × Bool))) = some (.inl (toB t)))
    (hn1 : nb = no.isSome) (hn2 : ∀ n, no = some n → nn = n) :
    ∃ y, ((getI y2 1).bind fun e15 => (m_strings_CutSuffix e15 (ByteArray.mk [126].toArray)).bind fun y16 => (m_strings_Split y16.1 (ByteArray.mk [47].toArray)).bind fun y17 => ifB ((y17.length : Int) != 2) (some ((TTone.mk 0 (TFraction.mk 0 0) ByteArray.empty false), false)) ((m_gleeref2_NumbersIn y17 15).bind fun y19 => (getI y19.1 0).bind fun e21 => (getI y19.1 1).bind fun e22 => (ifB ((y2.length : Int) == 3) ((getI y2 2).bind fun e26 => some (.inl e26)) (some (.inl ByteArray.empty)) : Option (ByteArray ⊕ (TTone × Bool))).bind fun k25 => Sum.fin k25 fun u23 => (ifB nb (ifB y19.2 ((getI y19.1 0).bind fun e30 => ifB (decide (e30 ≥ 0)) ((getI y19.1 1).bind fun e31 => some (.inl (decide (e31 ≥ 0), nn, e21, e22, u23, y16.2))) (some (.inl (false, nn, e21, e22, u23, y16.2)))) (some (.inl (false, nn, e21, e22, u23, y16.2)))) (some (.inl (false, nn, e21, e22, u23, y16.2))) : Option ((Bool × Int × Int × Int × ByteArray × Bool) ⊕ (TTone × Bool))).bind fun k29 => Sum.fin k29 fun u27 => some ((TTone.mk u27.2.1 (TFraction.mk u27.2.2.1 u27.2.2.2.1) u27.2.2.2.2.1 u27.2.2.2.2.2), u27.1))) = some (y, (match no, lenL b with | some n, some (f, td) => some (TTone.mk n f (toB t) td) | _, _ => none).isSome) ∧ ∀ z, (match no, lenL b with | some n, some (f, td) => some (TTone.mk n f (toB t) td) | _, _ => none) = some z → y = z := by
  have hl := lenL_sz b
  rw [h1, Option.bind_some, suffix_spec b hb, Option.bind_some]
  unfold lenL
  simp only
  generalize (if b.getLast? = some 126 then b.dropLast else b) = l at hl
  generalize decide (b.getLast? = some 126) = td
  rw [show (ByteArray.mk [47].toArray) = oneB 47 from rfl, Split_spec 47 _ (by rw [toB_size]; omega), Option.bind_some, data_toB]
  cases hc : cut1 47 l with
  | none =>
    rw [spl_none 47 l (cut1_none 47 l hc)]
    cases no <;> exact ⟨_, rfl, fun z hz => by cases hz⟩
  | some pq =>
    obtain ⟨p, q⟩ := pq
    obtain ⟨e1, e2⟩ := cut1_some 47 l p q hc
    have hlen : p.length + (q.length + 1) = l.length := by rw [e1]; simp
    simp only
    by_cases hq47 : (47 : UInt8) ∈ q
    · have hqn : natB q = none := by
        cases hq : natB q with
        | none => rfl
        | some d => exact absurd hq47 (natB_some (by omega) hq).2.2.2
      rw [show (((((spl 47 l).map toB).length : Nat) : Int) != 2) = true by
        have := spl_more e1 e2 hq47
        rw [bne_iff_ne, List.length_map]; omega, hqn]
      cases no <;> cases natB p <;> exact ⟨_, rfl, fun z hz => by cases hz⟩
    · rw [spl_two e1 e2 hq47]
      simp only [List.map_cons, List.map_nil]
      rw [show (((([toB p, toB q] : List ByteArray).length : Nat) : Int) != 2) = false from rfl, ifB_false]
      obtain ⟨ns, k1, k2, k3⟩ := numsIn_spec [toB p, toB q] (fun z hz => by
        simp only [List.mem_cons, List.not_mem_nil, or_false] at hz
        rcases hz with rfl | rfl <;> rw [toB_size] <;> omega) (by simp)
      obtain ⟨n0, n1, rfl⟩ : ∃ u v, ns = [u, v] := by
        match ns, k2 with
        | [u, v], _ => exact ⟨u, v, rfl⟩
      rw [k1, Option.bind_some, h3]
      simp only [show getI [n0, n1] 0 = some n0 from rfl, show getI [n0, n1] 1 = some n1 from rfl, Option.bind_some, fin_inl]
      have hp : natB p = (numB (toB p)).bind fun n => if 0 ≤ n then some n else none := by unfold natB; cases numB (toB p) <;> rfl
      have hq : natB q = (numB (toB q)).bind fun n => if 0 ≤ n then some n else none := by unfold natB; cases numB (toB q) <;> rfl
      rw [hp, hq]
      rw [allN_cons, allN_cons] at k3 ⊢
      cases hnp : numB (toB p) with
      | none =>
        simp only [Option.isSome_none, ifB_false, Option.bind_none]
        cases nb <;> cases no <;> exact ⟨_, rfl, fun z hz => by cases hz⟩
      | some m0 =>
        cases hnq : numB (toB q) with
        | none =>
          simp only [Option.map_none, Option.isSome_none, ifB_false, Option.bind_none, Option.bind_some]
          by_cases h0 : 0 ≤ m0
          · rw [if_pos h0]
            cases nb <;> cases no <;> exact ⟨_, rfl, fun z hz => by cases hz⟩
          · rw [if_neg h0]
            cases nb <;> cases no <;> exact ⟨_, rfl, fun z hz => by cases hz⟩
        | some m1 =>
          have hk := k3 [m0, m1] (by rw [hnp, hnq]; rfl)
          injection hk with q1 hk
          injection hk with q2 hk
          subst q1 q2
          simp only [Option.bind_some]
          rw [show (Option.map (fun x => n0 :: x) (Option.map (fun x => n1 :: x) (allN []))).isSome = true from rfl]
          simp only [ifB_true]
          subst hn1
          cases no with
          | none => exact ⟨_, rfl, fun z hz => by cases hz⟩
          | some n =>
            rw [hn2 n rfl]
            simp only [Option.isSome_some, ifB_true]
            by_cases h0 : 0 ≤ n0
            · rw [if_pos h0, decide_eq_true (show n0 ≥ 0 from h0)]
              by_cases h1' : 0 ≤ n1
              · rw [if_pos h1', decide_eq_true (show n1 ≥ 0 from h1')]
                exact ⟨_, rfl, fun z hz => by cases hz; rfl⟩
              · rw [if_neg h1', decide_eq_false (show ¬ n1 ≥ 0 from h1')]
                exact ⟨_, rfl, fun z hz => by cases hz⟩
            · rw [if_neg h0, decide_eq_false (show ¬ n0 ≥ 0 from h0)]
              exact ⟨_, rfl, fun z hz => by cases hz⟩
theorem noteRef (a : BL) (y2 : List ByteArray) (ha : a.length ≤ 1000000) (h0 : getI y2 0 = some (toB a)) : ∃ nb nn, (ifB (!((toB a).toList == (ByteArray.mk [45].toArray).toList)) ((getI y2 0).bind fun e13 => (m_gleeref2_Number e13 15).bind fun y14 => ifB y14.2 (some (.inl (decide (y14.1 ≥ 0), y14.1))) (some (.inl (false, y14.1)))) (some (.inl (true, (-1)))) : Option ((Bool × Int) ⊕ (TTone × Bool))) = some (.inl (nb, nn)) ∧ nb = (noteL a).isSome ∧ ∀ n, noteL a = some n → nn = n := by
  rw [dash_tl, h0, Option.bind_some]
  unfold noteL
  by_cases h : a = [45]
  · rw [decide_eq_true h, if_pos h]
    exact ⟨true, -1, rfl, rfl, fun n h => by cases h; rfl⟩
  · obtain ⟨n', b, g1, g2, g3⟩ := refnat_spec a ha
    rw [decide_eq_false h, if_neg h, Bool.not_false, ifB_true, g1, Option.bind_some]
    cases b with
    | true => exact ⟨_, n', rfl, by rw [← g2]; rfl, g3⟩
    | false => exact ⟨_, n', rfl, by rw [← g2]; rfl, g3⟩
theorem toneIn_spec (w : BL) (hw : w.length ≤ 1000000) : ∃ y, m_gleeref2_toneIn (toB w) = some (y, (toneL w).isSome) ∧ ∀ z, toneL w = some z → y = z := by
  unfold m_gleeref2_toneIn
  rw [show (ByteArray.mk [58].toArray) = oneB 58 from rfl, SplitN_three 58 w hw, Option.bind_some]
  cases h1 : cut1 58 w with
  | none =>
    have e3 : three 58 w = [w] := by unfold three; rw [h1]
    have e4 : toneL w = none := by unfold toneL; rw [h1]
    rw [e3, e4]
    exact ⟨_, rfl, fun z hz => by cases hz⟩
  | some ar =>
    obtain ⟨a, r⟩ := ar
    obtain ⟨e1, e2⟩ := cut1_some 58 w a r h1
    have hlen : a.length + (r.length + 1) = w.length := by rw [e1]; simp
    cases h2 : cut1 58 r with
    | none =>
      have e3 : three 58 w = [a, r] := by unfold three; rw [h1]; simp only; rw [h2]
      have e4 : toneL w = finT a r [] := by unfold toneL; rw [h1]; simp only; rw [h2]
      rw [e3, e4]
      simp only [List.map_cons, List.map_nil]
      rw [show decide (((([toB a, toB r] : List ByteArray).length : Nat) : Int) < 2) = false from rfl, ifB_false, show (((([toB a, toB r] : List ByteArray).length : Nat) : Int) == 3) = false from rfl, ifB_false, Option.bind_some, fin_inl, ifB_false, show getI [toB a, toB r] 0 = some (toB a) from rfl, Option.bind_some]
      obtain ⟨nb, nn, g1, g2, g3⟩ := noteRef a [toB a, toB r] (by omega) rfl
      rw [show getI [toB a, toB r] 0 = some (toB a) from rfl] at g1
      rw [g1, Option.bind_some, fin_inl]
      have := refTail [toB a, toB r] r [] nb nn (noteL a) (by omega) rfl rfl g2 g3
      exact this
    | some bt =>
      obtain ⟨b, t⟩ := bt
      obtain ⟨f1, f2⟩ := cut1_some 58 r b t h2
      have hlen2 : b.length + (t.length + 1) = r.length := by rw [f1]; simp
      have e3 : three 58 w = [a, b, t] := by unfold three; rw [h1]; simp only; rw [h2]
      have e4 : toneL w = if t = [] then none else finT a b t := by unfold toneL; rw [h1]; simp only; rw [h2]
      rw [e3, e4]
      simp only [List.map_cons, List.map_nil]
      rw [show decide (((([toB a, toB b, toB t] : List ByteArray).length : Nat) : Int) < 2) = false from rfl, ifB_false, show (((([toB a, toB b, toB t] : List ByteArray).length : Nat) : Int) == 3) = true from rfl, ifB_true, show getI [toB a, toB b, toB t] 2 = some (toB t) from rfl, Option.bind_some, Option.bind_some, fin_inl, ba_nil, data_toB]
      by_cases ht : t = []
      · rw [decide_eq_true ht, if_pos ht]
        exact ⟨_, rfl, fun z hz => by cases hz⟩
      · rw [decide_eq_false ht, if_neg ht, ifB_false, show getI [toB a, toB b, toB t] 0 = some (toB a) from rfl, Option.bind_some]
        obtain ⟨nb, nn, g1, g2, g3⟩ := noteRef a [toB a, toB b, toB t] (by omega) rfl
        rw [show getI [toB a, toB b, toB t] 0 = some (toB a) from rfl] at g1
        rw [g1, Option.bind_some, fin_inl]
        have := refTail [toB a, toB b, toB t] b t nb nn (noteL a) (by omega) rfl rfl g2 g3
        exact this
end Go.G
