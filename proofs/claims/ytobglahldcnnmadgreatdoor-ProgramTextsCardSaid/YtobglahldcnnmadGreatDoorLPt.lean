/- LPt: ProgramTexts' law: Text and Read answer as the reference. In plain Lean, no program in sight. -/
import Derived.Test.YtobglahldcnnmadGreatDoorLT3
import Derived.Test.YtobglahldcnnmadGreatDoorLCz
namespace Go.G
open Go Go.J
set_option linter.unusedSimpArgs false
set_option linter.unusedVariables false
abbrev PS := Int × Int × Int × Int × List TItem
/-- what a line adds -/
def progF (i : Nat) (s : PS) (x : BL) : Option PS :=
  match spl 32 x with
  | [w0, w1, w2, w3] =>
    if [] ∈ spl 32 x then none
    else if i = 0 then
      match allN [toB w0, toB w1, toB w2, toB w3] with
      | some [a, b, c, d] => some (a, b, c, d, s.2.2.2.2)
      | _ => none
    else match allN [toB w2] with
      | some [n] => if [] ∈ spl 44 w3 then none else some (s.1, s.2.1, s.2.2.1, s.2.2.2.1, s.2.2.2.2 ++ [⟨toB w0, toB w1, n, (spl 44 w3).map toB⟩])
      | _ => none
  | _ => none
theorem allN4 {l : List ByteArray} {r : List Int} (h : allN l = some r) (hl : l.length = 4) : ∃ a b c d, r = [a, b, c, d] := by
  have := allN_len l r h
  rw [hl] at this
  match r, this with
  | [a, b, c, d], _ => exact ⟨a, b, c, d, rfl⟩
theorem allN1 {l : List ByteArray} {r : List Int} (h : allN l = some r) (hl : l.length = 1) : ∃ a, r = [a] := by
  have := allN_len l r h
  rw [hl] at this
  match r, this with
  | [a], _ => exact ⟨a, rfl⟩
theorem len4 {α : Type} {l : List α} (h : l.length = 4) : ∃ a b c d, l = [a, b, c, d] := by
  match l, h with
  | [a, b, c, d], _ => exact ⟨a, b, c, d, rfl⟩
theorem progF_no {i : Nat} {s : PS} {x : BL} (h : (spl 32 x).length ≠ 4) : progF i s x = none := by
  unfold progF
  split
  · rename_i e; rw [e] at h; simp at h
  · rfl
theorem progF_nil {i : Nat} {s : PS} {x : BL} (h : [] ∈ spl 32 x) : progF i s x = none := by
  unfold progF
  split
  · rw [if_pos h]
  · rfl
theorem progF_len {i : Nat} {s s' : PS} {x : BL} (h : progF i s x = some s') : s'.2.2.2.2.length ≤ s.2.2.2.2.length + 1 := by
  unfold progF at h
  split at h
  · split at h
    · cases h
    · split at h
      · split at h
        · cases h; simp
        · cases h
      · split at h
        · split at h
          · cases h
          · cases h; simp
        · cases h
  · cases h
theorem readLine_spec (i : Nat) (s : PS) (x : BL) (hx : x.length ≤ 200000) (hs : s.2.2.2.2.length ≤ 400000) :
    m_concert_readLine s.2.2.2.2 s.1 s.2.1 s.2.2.1 s.2.2.2.1 ((i : Int) == 0) (toB x) = some (match progF i s x with | some z => (true, z.2.2.2.2, z.1, z.2.1, z.2.2.1, z.2.2.2.1) | none => (false, s.2.2.2.2, s.1, s.2.1, s.2.2.1, s.2.2.2.1)) := by
  have hsz : (toB x).size < 4294967281 := by rw [toB_size]; omega
  unfold m_concert_readLine
  rw [kitWords_spec _ hsz, Option.bind_some, data_toB]
  by_cases hn : [] ∈ spl 32 x
  · rw [if_pos hn, progF_nil hn]; rfl
  rw [if_neg hn]
  simp only [Bool.not_true, ifB_false, Option.bind_some, fin_inl]
  by_cases hl : (spl 32 x).length ≠ 4
  · rw [progF_no hl, show ((((spl 32 x).map toB).length : Int) != 4) = true by simp; omega]; rfl
  obtain ⟨w0, w1, w2, w3, hw⟩ := len4 (show (spl 32 x).length = 4 by omega)
  have hw3 : w3.length ≤ 200000 := Nat.le_trans (spl_size (c := 32) (s := x) (by rw [hw]; simp)) hx
  have hw2 : w2.length ≤ 200000 := Nat.le_trans (spl_size (c := 32) (s := x) (by rw [hw]; simp)) hx
  have hw1 : w1.length ≤ 200000 := Nat.le_trans (spl_size (c := 32) (s := x) (by rw [hw]; simp)) hx
  have hw0 : w0.length ≤ 200000 := Nat.le_trans (spl_size (c := 32) (s := x) (by rw [hw]; simp)) hx
  have e4 : ((((spl 32 x).map toB).length : Int) != 4) = false := by rw [hw]; rfl
  rw [e4, ifB_false]
  unfold progF
  rw [hw]
  simp only
  rw [hw] at hn
  rw [if_neg hn]
  simp only [List.map_cons, List.map_nil]
  by_cases hi : i = 0
  · rw [if_pos hi, show ((i : Int) == 0) = true by simp [hi], ifB_true]
    have hk := kitNums_spec [toB w0, toB w1, toB w2, toB w3] (fun z hz => by
      simp only [List.mem_cons, List.not_mem_nil, or_false] at hz
      rcases hz with rfl | rfl | rfl | rfl <;> rw [toB_size] <;> omega) (by simp)
    rw [hk, Option.bind_some]
    cases ha : allN [toB w0, toB w1, toB w2, toB w3] with
    | none => rfl
    | some r =>
      obtain ⟨a, b, c, d, rfl⟩ := allN4 ha rfl
      rfl
  · rw [if_neg hi, show ((i : Int) == 0) = false by simpa using hi, ifB_false]
    have hk := kitNums_spec [toB w2] (fun z hz => by rw [List.mem_singleton.1 hz, toB_size]; omega) (by simp)
    have g2 : getI [toB w0, toB w1, toB w2, toB w3] 2 = some (toB w2) := rfl
    have g3 : getI [toB w0, toB w1, toB w2, toB w3] 3 = some (toB w3) := rfl
    have g0 : getI [toB w0, toB w1, toB w2, toB w3] 0 = some (toB w0) := rfl
    have g1 : getI [toB w0, toB w1, toB w2, toB w3] 1 = some (toB w1) := rfl
    have hs3 : (toB w3).size < 4294967281 := by rw [toB_size]; omega
    rw [g2, Option.bind_some, hk, Option.bind_some, g3, Option.bind_some, show (ByteArray.mk [44].toArray) = oneB 44 from rfl, Split_spec 44 _ hs3, Option.bind_some, data_toB, ContainsS_dec, Option.bind_some, g0, g1]
    have hh : hasB ByteArray.empty ((spl 44 w3).map toB) = decide ([] ∈ spl 44 w3) := by
      rw [Bool.eq_iff_iff, hasB_iff, decide_eq_true_eq]; exact mem_toB_nil _
    rw [hh]
    cases ha : allN [toB w2] with
    | none => rfl
    | some r =>
      obtain ⟨a, rfl⟩ := allN1 ha rfl
      simp only [Bool.not_true, ifB_false, Option.bind_some, fin_inl]
      by_cases hc : [] ∈ spl 44 w3
      · rw [decide_eq_true hc, if_pos hc]; rfl
      · rw [decide_eq_false hc, if_neg hc, ifB_false, show getI [a] 0 = some a from rfl, Option.bind_some, appM_of (by simp; omega) (by omega)]; rfl
theorem closure_spec (i : Nat) (s : PS) (x : BL) (hx : x.length ≤ 200000) (hs : s.2.2.2.2.length ≤ 400000) :
    ∃ y, m_gleeref2_ProgramRead_1 (toB x) (decide (i = 0)) s.2.2.2.2 s.1 s.2.1 s.2.2.1 s.2.2.2.1 = some y ∧ y.1 = (progF i s x).isSome ∧ ∀ z, progF i s x = some z → y = (true, false, z.2.2.2.2, z.1, z.2.1, z.2.2.1, z.2.2.2.1) := by
  have hsz : (toB x).size < 4294967281 := by rw [toB_size]; omega
  unfold m_gleeref2_ProgramRead_1
  rw [refWords_spec _ hsz, Option.bind_some, data_toB]
  by_cases hn : [] ∈ spl 32 x
  · rw [decide_eq_true hn, progF_nil hn]
    exact ⟨_, rfl, rfl, fun z hz => by cases hz⟩
  rw [decide_eq_false hn]
  simp only [Bool.not_true, Bool.not_false, ifB_false, Option.bind_some, fin_inl]
  by_cases hl : (spl 32 x).length ≠ 4
  · rw [progF_no hl, show ((((spl 32 x).map toB).length : Int) != 4) = true by simp; omega]
    exact ⟨_, rfl, rfl, fun z hz => by cases hz⟩
  obtain ⟨w0, w1, w2, w3, hw⟩ := len4 (show (spl 32 x).length = 4 by omega)
  have hw3 : w3.length ≤ 200000 := Nat.le_trans (spl_size (c := 32) (s := x) (by rw [hw]; simp)) hx
  have hw2 : w2.length ≤ 200000 := Nat.le_trans (spl_size (c := 32) (s := x) (by rw [hw]; simp)) hx
  have hw1 : w1.length ≤ 200000 := Nat.le_trans (spl_size (c := 32) (s := x) (by rw [hw]; simp)) hx
  have hw0 : w0.length ≤ 200000 := Nat.le_trans (spl_size (c := 32) (s := x) (by rw [hw]; simp)) hx
  have e4 : ((((spl 32 x).map toB).length : Int) != 4) = false := by rw [hw]; rfl
  rw [e4, ifB_false]
  unfold progF
  rw [hw]
  simp only
  rw [hw] at hn
  rw [if_neg hn]
  simp only [List.map_cons, List.map_nil]
  by_cases hi : i = 0
  · rw [if_pos hi, decide_eq_true hi, ifB_true]
    obtain ⟨r, h1, h2, h3⟩ := numsIn_spec [toB w0, toB w1, toB w2, toB w3] (fun z hz => by
      simp only [List.mem_cons, List.not_mem_nil, or_false] at hz
      rcases hz with rfl | rfl | rfl | rfl <;> rw [toB_size] <;> omega) (by simp)
    obtain ⟨a, b, c, d, rfl⟩ := len4 (show r.length = 4 from h2)
    rw [h1, Option.bind_some]
    refine ⟨_, rfl, ?_, ?_⟩
    · cases ha : allN [toB w0, toB w1, toB w2, toB w3] with
      | none => rfl
      | some r' =>
        obtain ⟨a', b', c', d', rfl⟩ := allN4 ha rfl
        rfl
    · intro z hz
      cases ha : allN [toB w0, toB w1, toB w2, toB w3] with
      | none => rw [ha] at hz; cases hz
      | some r' =>
        have := h3 _ ha
        subst this
        rw [ha] at hz
        simp only [Option.some.injEq] at hz
        subst hz
        rfl
  · rw [if_neg hi, decide_eq_false hi, ifB_false]
    obtain ⟨n', h1, h2⟩ := (Number_spec (toB w2) (by rw [toB_size]; omega)).2
    have g2 : getI [toB w0, toB w1, toB w2, toB w3] 2 = some (toB w2) := rfl
    have g3 : getI [toB w0, toB w1, toB w2, toB w3] 3 = some (toB w3) := rfl
    have g0 : getI [toB w0, toB w1, toB w2, toB w3] 0 = some (toB w0) := rfl
    have g1 : getI [toB w0, toB w1, toB w2, toB w3] 1 = some (toB w1) := rfl
    have hs3 : (toB w3).size < 4294967281 := by rw [toB_size]; omega
    rw [g2, Option.bind_some, h1, Option.bind_some, g0, g1, g3, show (ByteArray.mk [44].toArray) = oneB 44 from rfl]
    simp only [Option.bind_some]
    rw [Split_spec 44 _ hs3, Option.bind_some, data_toB, Option.bind_some, fin_inl]
    simp only
    rw [appM_of (by simp; omega) (by omega), Option.bind_some, ContainsS_dec, Option.bind_some]
    have hh : hasB ByteArray.empty ((spl 44 w3).map toB) = decide ([] ∈ spl 44 w3) := by
      rw [Bool.eq_iff_iff, hasB_iff, decide_eq_true_eq]; exact mem_toB_nil _
    rw [hh]
    unfold allN allN
    cases hb : numB (toB w2) with
    | none => exact ⟨_, rfl, rfl, fun z hz => by cases hz⟩
    | some n =>
      have := h2 n hb
      subst this
      simp only [Option.isSome_some, ifB_true, Option.map_some]
      by_cases hc : [] ∈ spl 44 w3
      · rw [decide_eq_true hc, if_pos hc]
        exact ⟨_, rfl, rfl, fun z hz => by cases hz⟩
      · rw [decide_eq_false hc, if_neg hc]
        exact ⟨_, rfl, rfl, fun z hz => by cases hz; rfl⟩
/-! the loops -/
def zeroP : TProgram := TProgram.mk [] 0 0 0 0
def asP (s : PS) : TProgram := TProgram.mk s.2.2.2.2 s.1 s.2.1 s.2.2.1 s.2.2.2.1
theorem progL (Ls : List ByteArray) (ended : Bool) (hLs : Ls.length ≤ 400000) (Q : List ByteArray) : ∀ (P : List BL) (i : Nat) (s : PS), (∀ x ∈ P, x.length ≤ 200000) → s.2.2.2.2.length ≤ i → i + P.length ≤ 300000 → (ended = false → i + P.length < Ls.length) →
    rangeM (m_concert_Read_l1 (Ls, ended)) i (P.map toB ++ Q) s = match rdL progF i P s with
      | .inl k => some (.ret (zeroP, (k : Int), 9))
      | .inr s' => rangeM (m_concert_Read_l1 (Ls, ended)) (i + P.length) Q s' := by
  intro P
  induction P with
  | nil => intro i s _ _ _ _; rfl
  | cons x t ih =>
    intro i s hx hs hi he
    simp only [List.length_cons] at hi he
    have hl := readLine_spec i s x (hx x (List.mem_cons_self ..)) (by omega)
    rw [List.map_cons, List.cons_append, rangeM_cons]
    unfold rdL
    have hst : m_concert_Read_l1 (Ls, ended) i (toB x) s = some (match progF i s x with | some z => .nxt z | none => .ret (zeroP, (i : Int), 9)) := by
      unfold m_concert_Read_l1
      rw [hl, Option.bind_some]
      cases hp : progF i s x with
      | none => rfl
      | some z =>
        simp only [Bool.not_true, ifB_false]
        cases ended with
        | true => rfl
        | false =>
          have hne : ((i : Int) == (w64 ((Ls.length : Int) - 1))) = false := by
            rw [w64_id (by omega)]
            have := he rfl
            rw [beq_eq_false_iff_ne]; omega
          simp only [Bool.not_false, ifB_true, hne]; rfl
    rw [hst, Option.bind_some]
    cases hp : progF i s x with
    | none => rfl
    | some z =>
      have hzl := progF_len hp
      simp only [run_nxt]
      rw [ih (i + 1) z (fun y hy => hx y (List.mem_cons_of_mem _ hy)) (by omega) (by omega) (fun h => by have := he h; omega)]
      rw [List.length_cons, show i + 1 + t.length = i + (t.length + 1) by omega]
noncomputable def checkP (p : TProgram) : Int := (m_gleeref2_ProgramFault p).getD 0
theorem checkP_of (p : TProgram) : m_gleeref2_ProgramFault p = some (checkP p) := by
  obtain ⟨e, he, -⟩ := ProgramFault_total p
  unfold checkP
  rw [he]; rfl
noncomputable def readP (t : ByteArray) : TProgram × Int × Int :=
  if t.size > 200000 then (zeroP, 0, 2)
  else if t.data.toList = [] then (zeroP, 0, 9)
  else match rdL progF 0 (linesOf t.data.toList) (0, 0, 0, 0, []) with
    | .inl k => (zeroP, (k : Int), 9)
    | .inr s => if leftOf t.data.toList = [] then (if checkP (asP s) ≠ 0 then (zeroP, 0, checkP (asP s)) else (asP s, 0, 0)) else (zeroP, ((linesOf t.data.toList).length : Int), 9)
theorem Read_spec (t : ByteArray) : m_concert_Read t = some (readP t) := by
  unfold m_concert_Read readP
  by_cases hbig : t.size > 200000
  · rw [decide_eq_true (by omega), if_pos hbig]; rfl
  rw [decide_eq_false (by omega), if_neg hbig, ifB_false, kitLines_spec t (by omega)]
  by_cases h0 : t.data.toList = []
  · rw [if_pos h0, if_pos h0]; rfl
  rw [if_neg h0, if_neg h0]
  have hsz : t.data.toList.length ≤ 200000 := by rw [← size_data]; omega
  have hP := lines_len t.data.toList
  have hx : ∀ x ∈ linesOf t.data.toList, x.length ≤ 200000 := fun x hx => Nat.le_trans (lines_size hx) hsz
  have hleft : (leftOf t.data.toList).length ≤ 200000 := Nat.le_trans (left_size _) hsz
  by_cases hl : leftOf t.data.toList = []
  · rw [if_pos hl]
    have hne : linesOf t.data.toList ≠ [] := fun h => by
      have := text_of t.data.toList
      rw [h, hl] at this
      exact h0 this.symm
    have hpos := List.length_pos_iff.2 hne
    have hz : ((((linesOf t.data.toList).map toB).length : Int) == 0) = false := by rw [beq_eq_false_iff_ne]; simp; exact hne
    have hr := progL ((linesOf t.data.toList).map toB) true (by rw [List.length_map]; omega) [] (linesOf t.data.toList) 0 (0, 0, 0, 0, []) hx (by simp) (by omega) (by simp)
    rw [List.append_nil] at hr
    simp only [Option.bind_some]
    rw [hz, ifB_false, hr]
    cases hrd : rdL progF 0 (linesOf t.data.toList) (0, 0, 0, 0, []) with
    | inl k => rfl
    | inr s =>
      simp only [rangeM_nil, Option.bind_some, fin_brk]
      rw [if_pos hl, show (TProgram.mk s.2.2.2.2 s.1 s.2.1 s.2.2.1 s.2.2.2.1) = asP s from rfl, CheckProgram_eq, checkP_of, Option.bind_some]
      by_cases hc : checkP (asP s) = 0
      · rw [hc, if_neg (by simp)]; rfl
      · rw [show (checkP (asP s) != 0) = true by simpa using hc, if_pos hc]; rfl
  · rw [if_neg hl]
    simp only [Option.bind_some]
    have hz : ((((linesOf t.data.toList ++ [leftOf t.data.toList]).map toB).length : Int) == 0) = false := by rw [beq_eq_false_iff_ne]; simp; omega
    have hr := progL ((linesOf t.data.toList ++ [leftOf t.data.toList]).map toB) false (by simp; omega) [toB (leftOf t.data.toList)] (linesOf t.data.toList) 0 (0, 0, 0, 0, []) hx (by simp) (by omega) (by simp)
    rw [hz, ifB_false]
    rw [show (linesOf t.data.toList ++ [leftOf t.data.toList]).map toB = (linesOf t.data.toList).map toB ++ [toB (leftOf t.data.toList)] by simp] at hr ⊢
    rw [hr]
    cases hrd : rdL progF 0 (linesOf t.data.toList) (0, 0, 0, 0, []) with
    | inl k => rfl
    | inr s =>
      have hsl : s.2.2.2.2.length ≤ (linesOf t.data.toList).length := by
        have key : ∀ (P : List BL) (i : Nat) (u v : PS), rdL progF i P u = .inr v → v.2.2.2.2.length ≤ u.2.2.2.2.length + P.length := by
          intro P
          induction P with
          | nil => intro i u v h; simp [rdL] at h; rw [h]; simp
          | cons y P ih =>
            intro i u v h
            unfold rdL at h
            cases hp : progF i u y with
            | none => rw [hp] at h; cases h
            | some z =>
              rw [hp] at h
              have h1 := ih (i + 1) z v h
              have h2 := progF_len hp
              simp only [List.length_cons]; omega
        have := key _ _ _ _ hrd
        simpa using this
      have hlr := readLine_spec (linesOf t.data.toList).length s (leftOf t.data.toList) hleft (by omega)
      simp only [rangeM_cons, rangeM_nil, Nat.zero_add]
      have hlast : m_concert_Read_l1 ((linesOf t.data.toList).map toB ++ [toB (leftOf t.data.toList)], false) (linesOf t.data.toList).length (toB (leftOf t.data.toList)) s = some (.ret (zeroP, ((linesOf t.data.toList).length : Int), 9)) := by
        unfold m_concert_Read_l1
        rw [hlr, Option.bind_some]
        cases hp : progF (linesOf t.data.toList).length s (leftOf t.data.toList) with
        | none => simp only [Bool.not_false, ifB_true, Option.bind_some, fin_inl]; rfl
        | some z =>
          have hq : (((linesOf t.data.toList).length : Int) == (w64 ((((linesOf t.data.toList).map toB ++ [toB (leftOf t.data.toList)]).length : Int) - 1))) = true := by
            rw [w64_id (by simp; omega)]
            simp
          simp only [Bool.not_true, Bool.not_false, ifB_false, ifB_true, hq, Option.bind_some, fin_inl]; rfl
      rw [hlast, if_neg hl]; rfl
/-! .. of the reference -/
theorem refL (l : BL) (hl : (10 : UInt8) ∉ l) (hll : l.length ≤ 200000) : ∀ (P : List BL) (i : Nat) (s : PS), (∀ x ∈ P, (10 : UInt8) ∉ x ∧ x.length ≤ 200000) → (jn 10 (P ++ [l])).length ≤ 200000 → s.2.2.2.2.length ≤ i → i + P.length ≤ 300000 →
    match rdL progF i P s with
    | .inl k => ∃ v, loopM m_gleeref2_Lines__gleeref2_ProgramRead_1_l1 (toB (jn 10 (P ++ [l])), (i : Int), decide (i = 0), s) = some (.ret v) ∧ v.1 = (k : Int) ∧ v.2.1 = false
    | .inr s' => if l = [] then loopM m_gleeref2_Lines__gleeref2_ProgramRead_1_l1 (toB (jn 10 (P ++ [l])), (i : Int), decide (i = 0), s) = some (.brk (toB [], ((i + P.length : Nat) : Int), (decide (i = 0) && P.isEmpty), s'))
        else ∃ v, loopM m_gleeref2_Lines__gleeref2_ProgramRead_1_l1 (toB (jn 10 (P ++ [l])), (i : Int), decide (i = 0), s) = some (.ret v) ∧ v.1 = ((i + P.length : Nat) : Int) ∧ v.2.1 = false := by
  intro P
  induction P with
  | nil =>
    intro i s _ hj _ _
    simp only [rdL, List.nil_append, jn, List.length_nil, Nat.add_zero]
    by_cases h : l = []
    · subst h
      rw [if_pos rfl]
      have hs : m_gleeref2_Lines__gleeref2_ProgramRead_1_l1 (toB [], (i : Int), decide (i = 0), s) = some (.brk (toB [], (i : Int), decide (i = 0), s)) := by
        unfold m_gleeref2_Lines__gleeref2_ProgramRead_1_l1
        simp only
        rw [ba_nil, data_toB]; rfl
      rw [loopM_step hs]
      simp only [Flow.run, List.isEmpty_nil, Bool.and_true]
    · rw [if_neg h]
      have hs : ∃ v, m_gleeref2_Lines__gleeref2_ProgramRead_1_l1 (toB l, (i : Int), decide (i = 0), s) = some (.ret v) ∧ v.1 = (i : Int) ∧ v.2.1 = false := by
        unfold m_gleeref2_Lines__gleeref2_ProgramRead_1_l1
        simp only
        rw [ba_nil, data_toB, decide_eq_false h, show (ByteArray.mk [10].toArray) = oneB 10 from rfl, Cut_miss (c := 10) (s := toB l) hl]
        exact ⟨_, rfl, rfl, rfl⟩
      obtain ⟨v, hs, h1, h2⟩ := hs
      exact ⟨v, by rw [loopM_step hs]; rfl, h1, h2⟩
  | cons x t ih =>
    intro i s hx hj hs hi
    simp only [List.length_cons] at hi
    obtain ⟨hx1, hx2⟩ := hx x (List.mem_cons_self ..)
    rw [List.cons_append, jn_line] at hj ⊢
    have hj2 : (jn 10 (t ++ [l])).length ≤ 200000 := by simp at hj; omega
    have hcut : m_strings_Cut (toB (x ++ 10 :: jn 10 (t ++ [l]))) (oneB 10) = some (toB x, toB (jn 10 (t ++ [l])), true) := Cut_hit (data_toB _) hx1 (by rw [toB_size]; omega)
    obtain ⟨y, hy1, hy2, hy3⟩ := closure_spec i s x hx2 (by omega)
    unfold rdL
    have hst : ∃ f, m_gleeref2_Lines__gleeref2_ProgramRead_1_l1 (toB (x ++ 10 :: jn 10 (t ++ [l])), (i : Int), decide (i = 0), s) = some f ∧ match progF i s x with
        | some z => f = .nxt (toB (jn 10 (t ++ [l])), ((i + 1 : Nat) : Int), decide (i + 1 = 0), z)
        | none => ∃ v, f = .ret v ∧ v.1 = (i : Int) ∧ v.2.1 = false := by
      unfold m_gleeref2_Lines__gleeref2_ProgramRead_1_l1
      simp only
      rw [ba_nil, data_toB, decide_eq_false (by simp), Bool.not_false, ifB_true, show (ByteArray.mk [10].toArray) = oneB 10 from rfl, hcut, Option.bind_some]
      simp only [Bool.not_true, ifB_false]
      rw [hy1, Option.bind_some, Option.bind_some, fin_inl]
      simp only
      rw [hy2]
      cases hp : progF i s x with
      | none => exact ⟨_, rfl, _, rfl, rfl, rfl⟩
      | some z =>
        have := hy3 z hp
        subst this
        simp only [Option.isSome_some, Bool.not_true, ifB_false]
        refine ⟨_, rfl, ?_⟩
        rw [w64_id (by omega)]
        simp
    obtain ⟨f, hf1, hf2⟩ := hst
    rw [loopM_step hf1]
    cases hp : progF i s x with
    | none =>
      rw [hp] at hf2
      obtain ⟨v, rfl, h1, h2⟩ := hf2
      exact ⟨v, rfl, h1, h2⟩
    | some z =>
      rw [hp] at hf2
      subst hf2
      have hzl := progF_len hp
      have := ih (i + 1) z (fun y hy => hx y (List.mem_cons_of_mem _ hy)) hj2 (by omega) (by omega)
      have e1 : ((i + (x :: t).length : Nat) : Int) = ((i + 1 + t.length : Nat) : Int) := by simp only [List.length_cons]; omega
      have e2 : (decide (i = 0) && (x :: t).isEmpty) = (decide (i + 1 = 0) && t.isEmpty) := by simp
      simp only [Flow.run]
      rw [e1, e2]
      exact this
theorem ProgramRead_spec (t : ByteArray) : m_gleeref2_ProgramRead t = some (readP t) := by
  unfold m_gleeref2_ProgramRead readP
  by_cases hbig : t.size > 200000
  · rw [decide_eq_true (by omega), if_pos hbig]; rfl
  rw [decide_eq_false (by omega), if_neg hbig, ifB_false]
  have hsz : t.data.toList.length ≤ 200000 := by rw [← size_data]; omega
  have hP := lines_len t.data.toList
  have hrl := refL (leftOf t.data.toList) (leftOf_nl _) (Nat.le_trans (left_size _) hsz) (linesOf t.data.toList) 0 (0, 0, 0, 0, []) (fun x hx => ⟨linesOf_nl hx, Nat.le_trans (lines_size hx) hsz⟩) (by rw [text_of]; exact hsz) (by simp) (by omega)
  rw [text_of, toB_data] at hrl
  unfold m_gleeref2_Lines__gleeref2_ProgramRead_1
  rw [show ((t, ((0 : Nat) : Int), decide ((0 : Nat) = 0), ((0, 0, 0, 0, []) : PS)) : ByteArray × Int × Bool × PS) = (t, 0, true, 0, 0, 0, 0, []) from rfl] at hrl
  by_cases h0 : t.data.toList = []
  · rw [if_pos h0]
    have e1 : linesOf t.data.toList = [] := by rw [h0]; rfl
    have e2 : leftOf t.data.toList = [] := by rw [h0]; rfl
    rw [e1, e2] at hrl
    simp only [rdL, if_true] at hrl
    rw [hrl]; rfl
  rw [if_neg h0]
  cases hrd : rdL progF 0 (linesOf t.data.toList) (0, 0, 0, 0, []) with
  | inl k =>
    rw [hrd] at hrl
    obtain ⟨v, h1, h2, h3⟩ := hrl
    rw [h1]
    simp only [Option.bind_some, Flow.fin, h3, Bool.not_false, ifB_true, fin_inl, h2]; rfl
  | inr s =>
    rw [hrd] at hrl
    simp only at hrl
    by_cases hl : leftOf t.data.toList = []
    · rw [if_pos hl] at hrl
      rw [hrl]
      simp only
      rw [if_pos hl]
      have hne : linesOf t.data.toList ≠ [] := fun h => by
        have := text_of t.data.toList
        rw [h, hl] at this
        exact h0 this.symm
      have hpos := List.length_pos_iff.2 hne
      have hf : (decide True && (linesOf t.data.toList).isEmpty) = false := by simpa using hne
      simp only [Option.bind_some, fin_brk, Bool.not_true, ifB_false, hf, fin_inl]
      rw [show (TProgram.mk s.2.2.2.2 s.1 s.2.1 s.2.2.1 s.2.2.2.1) = asP s from rfl, checkP_of, Option.bind_some]
      by_cases hc : checkP (asP s) = 0
      · rw [hc, if_neg (by simp)]; rfl
      · rw [show (checkP (asP s) != 0) = true by simpa using hc, if_pos hc]; rfl
    · rw [if_neg hl] at hrl
      obtain ⟨v, h1, h2, h3⟩ := hrl
      rw [h1]
      simp only
      rw [if_neg hl]
      simp only [Option.bind_some, Flow.fin, h3, Bool.not_false, ifB_true, fin_inl, h2, Nat.zero_add]; rfl
/-! what is written -/
def headB (p : TProgram) : BL := jn 32 [Lib.itoa p.Change, Lib.itoa p.Clap, Lib.itoa p.Break, Lib.itoa p.Half] ++ [10]
def itemB (x : TItem) : BL := jn 32 [x.Key.data.toList, x.Places.data.toList, Lib.itoa x.Long, jn 44 (x.Parts.map (·.data.toList))] ++ [10]
def progB (p : TProgram) : BL := headB p ++ p.Items.flatMap itemB
structure ProgSz (p : TProgram) : Prop where
  num : ∀ n ∈ [p.Change, p.Clap, p.Break, p.Half], -9223372036854775808 ≤ n ∧ n ≤ 9223372036854775807
  long : ∀ x ∈ p.Items, -9223372036854775808 ≤ x.Long ∧ x.Long ≤ 9223372036854775807
  sz : ∀ x ∈ p.Items, ItemSz x
  len : p.Items.length ≤ 60
theorem parts_len {x : TItem} (h : ItemSz x) : (jn 44 (x.Parts.map (·.data.toList))).length ≤ 500 := by
  have key : ∀ (l : List ByteArray), (∀ z ∈ l, z.size ≤ 40) → (((l.map (·.data.toList)).map (·.length + 1)).sum) ≤ 41 * l.length := by
    intro l
    induction l with
    | nil => intro _; simp
    | cons z l ih =>
      intro hz
      have h2 := ih fun y hy => hz y (List.mem_cons_of_mem _ hy)
      have h3 := hz z (List.mem_cons_self ..)
      rw [size_data] at h3
      simp only [List.map_cons, List.sum_cons, List.length_cons] at h2 ⊢
      omega
  have h2 : (jn 44 (x.Parts.map (·.data.toList))).length ≤ 41 * x.Parts.length := Nat.le_trans (jn_len 44 (x.Parts.map (·.data.toList))) (key x.Parts h.par)
  have h3 := h.len
  omega
theorem itoa_len {n : Int} (h : -9223372036854775808 ≤ n ∧ n ≤ 9223372036854775807) : (Lib.itoa n).length ≤ 21 := Lib.itoa_length_le n (by omega) (by omega)
theorem itemB_len {x : TItem} (h : ItemSz x) (hl : -9223372036854775808 ≤ x.Long ∧ x.Long ≤ 9223372036854775807) : (itemB x).length ≤ 700 := by
  have h1 := parts_len h
  have h2 := itoa_len hl
  have h3 := h.key
  have h4 := h.pla
  rw [size_data] at h3 h4
  unfold itemB
  simp only [jn, List.length_append, List.length_cons, List.length_nil]
  omega
theorem headB_len {p : TProgram} (h : ProgSz p) : (headB p).length ≤ 100 := by
  have h1 := itoa_len (h.num p.Change (by simp))
  have h2 := itoa_len (h.num p.Clap (by simp))
  have h3 := itoa_len (h.num p.Break (by simp))
  have h4 := itoa_len (h.num p.Half (by simp))
  unfold headB
  simp only [jn, List.length_append, List.length_cons, List.length_nil]
  omega
theorem Itoa_is {n : Int} (h : -9223372036854775808 ≤ n ∧ n ≤ 9223372036854775807) : m_strconv_Itoa n = some (toB (Lib.itoa n)) := by unfold m_strconv_Itoa; rw [if_pos h]; rfl
theorem flat_len {l : List TItem} (hs : ∀ x ∈ l, ItemSz x) (hl : ∀ x ∈ l, -9223372036854775808 ≤ x.Long ∧ x.Long ≤ 9223372036854775807) : (l.flatMap itemB).length ≤ 700 * l.length := by
  induction l with
  | nil => simp
  | cons x l ih =>
    have h1 := ih (fun y hy => hs y (List.mem_cons_of_mem _ hy)) (fun y hy => hl y (List.mem_cons_of_mem _ hy))
    have h2 := itemB_len (hs x (List.mem_cons_self ..)) (hl x (List.mem_cons_self ..))
    simp only [List.flatMap_cons, List.length_append, List.length_cons]
    omega
theorem progB_len {p : TProgram} (h : ProgSz p) : (progB p).length ≤ 100 + 700 * p.Items.length := by
  have h1 := headB_len h
  have h2 := flat_len h.sz h.long
  unfold progB
  rw [List.length_append]; omega
theorem toB_app (a b : BL) : toB a ++ toB b = toB (a ++ b) := ba_ext (by rw [app_data]; rfl)
theorem kitJoin_spec (L : List ByteArray) (h : L.length ≤ 1000000) (hl : (jn 32 (L.map (·.data.toList))).length ≤ 1000000000) : m_kit_Join L = some (toB (jn 32 (L.map (·.data.toList)) ++ [10])) := by
  unfold m_kit_Join
  rw [show (ByteArray.mk [32].toArray) = oneB 32 from rfl, Join_spec 32 L h hl, Option.bind_some, catM_of (by rw [toB_size, show (ByteArray.mk [10].toArray).size = 1 from rfl]; omega), show (ByteArray.mk [10].toArray) = toB [10] from rfl, toB_app]; rfl
theorem Text_spec {p : TProgram} (h : ProgSz p) (h0 : m_gleeref2_ProgramFault p = some 0) : m_concert_Text p = some (toB (progB p), 0) := by
  have hh := headB_len h
  unfold m_concert_Text
  rw [CheckProgram_eq, h0, Option.bind_some, show ((0 : Int) != 0) = false from rfl, ifB_false, Itoa_is (h.num p.Change (by simp)), Itoa_is (h.num p.Clap (by simp)), Itoa_is (h.num p.Break (by simp)), Itoa_is (h.num p.Half (by simp))]
  simp only [Option.bind_some]
  rw [kitJoin_spec _ (by simp) (by
    have := hh
    unfold headB at this
    simp only [List.map_cons, List.map_nil, data_toB, List.length_append, List.length_cons, List.length_nil] at this ⊢
    omega), Option.bind_some]
  simp only [List.map_cons, List.map_nil, data_toB]
  rw [show jn 32 [Lib.itoa p.Change, Lib.itoa p.Clap, Lib.itoa p.Break, Lib.itoa p.Half] ++ [10] = headB p from rfl]
  have hw : ∀ (a b : BL), a.length + b.length ≤ 1000000 → m_bWriteString (toB a) (toB b) = some (toB (a ++ b)) := fun a b hab => by
    unfold m_bWriteString
    rw [if_pos (by rw [toB_size, toB_size]; omega), toB_app]
  have h1 := hw [] (headB p) (by simp; omega)
  rw [show (ByteArray.empty) = toB [] from rfl, h1, Option.bind_some, List.nil_append]
  have hlen := progB_len h
  have hn := h.len
  obtain ⟨u, g1, g2⟩ := rangeM_invx m_concert_Text_l1 p.Items (fun i u => u = toB (headB p ++ (p.Items.take i).flatMap itemB)) (by
    rintro i x u hx rfl
    have hi := (List.getElem?_eq_some_iff.1 hx).1
    have hxm := List.mem_of_getElem? hx
    have hz := h.sz x hxm
    have hlo := h.long x hxm
    have hil := itemB_len hz hlo
    have hpl := parts_len hz
    have hfl := flat_len (l := p.Items.take i) (fun y hy => h.sz y (List.take_subset _ _ hy)) (fun y hy => h.long y (List.take_subset _ _ hy))
    rw [List.length_take] at hfl
    unfold m_concert_Text_l1
    have hzl := hz.len
    rw [Itoa_is hlo, Option.bind_some, show (ByteArray.mk [44].toArray) = oneB 44 from rfl, Join_spec 44 x.Parts (by omega) (by omega), Option.bind_some, kitJoin_spec _ (by simp) (by
      unfold itemB at hil
      simp only [List.map_cons, List.map_nil, data_toB, List.length_append, List.length_cons, List.length_nil] at hil ⊢
      omega), Option.bind_some]
    simp only [List.map_cons, List.map_nil, data_toB]
    rw [show jn 32 [x.Key.data.toList, x.Places.data.toList, Lib.itoa x.Long, jn 44 (x.Parts.map (·.data.toList))] ++ [10] = itemB x from rfl, hw _ _ (by rw [List.length_append]; omega), Option.bind_some]
    refine ⟨_, rfl, ?_⟩
    rw [List.take_add_one, hx]
    simp [List.flatMap_append]) (toB (headB p)) (by simp)
  rw [g1, Option.bind_some, fin_brk, g2, List.take_length]
  rw [show headB p ++ p.Items.flatMap itemB = progB p from rfl, toB_size, decide_eq_false (by omega)]; rfl
theorem ProgramLines_spec {p : TProgram} (h : ProgSz p) : m_gleeref2_ProgramLines p = some (toB (progB p)) := by
  have hh := headB_len h
  have hn := h.len
  unfold m_gleeref2_ProgramLines
  have hnum : m_gleeref2_Numbers [p.Change, p.Clap, p.Break, p.Half] = some (toB (jn 32 [Lib.itoa p.Change, Lib.itoa p.Clap, Lib.itoa p.Break, Lib.itoa p.Half])) := by
    unfold m_gleeref2_Numbers
    obtain ⟨u, g1, g2⟩ := rangeM_invx m_gleeref2_Numbers_l1 [p.Change, p.Clap, p.Break, p.Half] (fun i u => u = ([p.Change, p.Clap, p.Break, p.Half].take i).map fun n => toB (Lib.itoa n)) (by
      rintro i x u hx rfl
      have hi := (List.getElem?_eq_some_iff.1 hx).1
      unfold m_gleeref2_Numbers_l1
      rw [Itoa_is (h.num x (List.mem_of_getElem? hx)), Option.bind_some, appM_of (by simp at hi ⊢; omega) (by omega), Option.bind_some]
      refine ⟨_, rfl, ?_⟩
      rw [List.take_add_one, hx]
      simp) [] rfl
    rw [g1, Option.bind_some, fin_brk, g2, show (ByteArray.mk [32].toArray) = oneB 32 from rfl, Join_spec 32 _ (by simp) (by
      unfold headB at hh
      simp only [List.length_append] at hh
      simp only [List.length_cons, List.length_nil, List.take, List.map_cons, List.map_nil, data_toB]
      omega)]
    simp [data_toB]
  have hcat : ∀ (a b : BL), a.length + b.length ≤ 1000000 → catM (toB a) (toB b) = some (toB (a ++ b)) := fun a b hab => by rw [catM_of (by rw [toB_size, toB_size]; omega), toB_app]
  have eN : ByteArray.mk [10].toArray = toB [10] := rfl
  have eB : ByteArray.mk [32].toArray = toB [32] := rfl
  rw [hnum, Option.bind_some, eN, hcat _ _ (by unfold headB at hh; simp only [List.length_append] at hh ⊢; omega), Option.bind_some]
  rw [show jn 32 [Lib.itoa p.Change, Lib.itoa p.Clap, Lib.itoa p.Break, Lib.itoa p.Half] ++ [10] = headB p from rfl]
  obtain ⟨u, g1, g2⟩ := rangeM_invx m_gleeref2_ProgramLines_l1 p.Items (fun i u => u = toB (headB p ++ (p.Items.take i).flatMap itemB)) (by
    rintro i x u hx rfl
    have hi := (List.getElem?_eq_some_iff.1 hx).1
    have hxm := List.mem_of_getElem? hx
    have hz := h.sz x hxm
    have hlo := h.long x hxm
    have hil := itemB_len hz hlo
    have hpl := parts_len hz
    have hitl := itoa_len hlo
    have hk := hz.key
    have hp := hz.pla
    rw [size_data] at hk hp
    have hfl := flat_len (l := p.Items.take i) (fun y hy => h.sz y (List.take_subset _ _ hy)) (fun y hy => h.long y (List.take_subset _ _ hy))
    rw [List.length_take] at hfl
    unfold m_gleeref2_ProgramLines_l1
    have hzl := hz.len
    rw [eN, eB, Itoa_is hlo, show (ByteArray.mk [44].toArray) = oneB 44 from rfl, Join_spec 44 x.Parts (by omega) (by omega)]
    conv => 
      pattern catM x.Key _
      rw [← toB_data x.Key]
    rw [hcat _ _ (by simp only [List.length_cons, List.length_nil, List.length_append]; omega), Option.bind_some]
    conv => 
      pattern catM _ x.Places
      rw [← toB_data x.Places]
    rw [hcat _ _ (by simp only [List.length_cons, List.length_nil, List.length_append]; omega), Option.bind_some, hcat _ _ (by simp only [List.length_cons, List.length_nil, List.length_append]; omega), Option.bind_some, Option.bind_some, hcat _ _ (by simp only [List.length_cons, List.length_nil, List.length_append]; omega), Option.bind_some, hcat _ _ (by simp only [List.length_cons, List.length_nil, List.length_append]; omega), Option.bind_some, Option.bind_some, hcat _ _ (by simp only [List.length_cons, List.length_nil, List.length_append]; omega), Option.bind_some, hcat _ _ (by simp only [List.length_cons, List.length_nil, List.length_append]; omega), Option.bind_some, hcat _ _ (by simp only [List.length_cons, List.length_nil, List.length_append]; omega), Option.bind_some]
    refine ⟨_, rfl, ?_⟩
    rw [List.take_add_one, hx]
    simp [itemB, jn, List.flatMap_append]) (toB (headB p)) (by simp)
  rw [g1, Option.bind_some, fin_brk, g2, List.take_length]; rfl
/-! equal programs -/
theorem EqualSR (a : List ByteArray) : m_slices_Equal_string_string a a = some true := by
  unfold m_slices_Equal_string_string
  rw [show ((a.length : Int) != (a.length : Int)) = false by simp, ifB_false]
  obtain ⟨s, h1, -⟩ := rangeM_invx (m_slices_Equal_string_string_l1 a) a (fun _ _ => True) (by
    intro i x s hx _
    unfold m_slices_Equal_string_string_l1
    rw [getI_of rfl hx, Option.bind_some, show (!(x.toList == x.toList)) = false by simp, ifB_false]
    exact ⟨_, rfl, trivial⟩) () trivial
  rw [h1]; rfl
theorem SameItem_refl (x : TItem) : m_gleeref2_SameItem x x = some true := by
  unfold m_gleeref2_SameItem
  simp [EqualSR]
theorem SameProgram_refl (p : TProgram) : m_gleeref2_SameProgram p p = some true := by
  unfold m_gleeref2_SameProgram m_slices_EqualFunc_api_Item_api_Item_api_Item_api_Item__gleeref2_SameItem
  rw [show ((p.Items.length : Int) != (p.Items.length : Int)) = false by simp]
  obtain ⟨s, h1, -⟩ := rangeM_invx (m_slices_EqualFunc_api_Item_api_Item_api_Item_api_Item__gleeref2_SameItem_l1 p.Items) p.Items (fun _ _ => True) (by
    intro i x s hx _
    unfold m_slices_EqualFunc_api_Item_api_Item_api_Item_api_Item__gleeref2_SameItem_l1
    rw [getI_of rfl hx, Option.bind_some, SameItem_refl, Option.bind_some]
    exact ⟨_, rfl, trivial⟩) () trivial
  rw [h1]
  simp
/-! the draws -/
theorem Right_sz (L : List Int) {q most : Int} (hq : 0 ≤ q) (hq' : q ≤ 999990000) (hm : 0 ≤ most) (hm' : most ≤ 5) : ∃ p q', m_gleemake_Stream_RightProgram L q most = some (p, q') ∧ q ≤ q' ∧ q' ≤ q + 50 ∧ (p.Items.length : Int) ≤ most ∧ ProgSz p := by
  obtain ⟨p, q', h1, h2, h3, h4, h6, h5⟩ := RightProgram_sz L hq hq' hm hm'
  exact ⟨p, q', h1, h2, h3, h4, fun n hn => by have := h6 n hn; omega, fun x hx => by have := (h5 x hx).1.2.2; omega, fun x hx => by
    obtain ⟨⟨k1, k2, -⟩, k3, k4⟩ := h5 x hx
    exact ⟨k1, k2, by omega, fun z hz => voices_size z (k4 z hz)⟩, by omega⟩
theorem fault_sz {p : TProgram} (h : m_gleeref2_ProgramFault p = some 0) : ProgSz p := by
  obtain ⟨e, he, hok⟩ := ProgramFault_total p
  rw [h] at he
  have ok := hok (Option.some.inj he).symm
  refine ⟨fun n hn => ?_, fun x hx => ?_, ItemsFault_sz p.Items (ProgramFault_items h), ok.len⟩
  · have := ok.ch1; have := ok.ch2; have := ok.cl1; have := ok.cl2; have := ok.br1; have := ok.br2; have := ok.half1; have := ok.half2; have := ok.len
    simp only [List.mem_cons, List.not_mem_nil, or_false] at hn
    omega
  · obtain ⟨i, hi, hix⟩ := List.getElem_of_mem hx
    have := ok.item i x (by rw [List.getElem?_eq_getElem hi, hix])
    have h1 := this.long1; have h2 := this.long2
    omega
theorem ProgramText_spec (L : List Int) {q : Int} (hq : 0 ≤ q) (hq' : q ≤ 900000000) : ∃ t q', m_gleemake_Stream_ProgramText L q = some (t, q') := by
  unfold m_gleemake_Stream_ProgramText
  obtain ⟨p, q1, h1, h2, h3, h4, h5⟩ := Right_sz L (q := q) (most := 3) hq (by omega) (by omega) (by omega)
  have hlen := progB_len h5
  rw [h1, Option.bind_some, ProgramLines_spec h5, Option.bind_some]
  obtain ⟨v, h12, h13⟩ := Pick_spec L (p := q1) [0, 0, 1, 2] (by omega) (by omega) (by simp) (by simp)
  simp only
  rw [h12, Option.bind_some]
  simp only
  have hv : 0 ≤ v ∧ v ≤ 2 := by
    simp only [List.mem_cons, List.not_mem_nil, or_false] at h13
    omega
  rw [rangeI_of (by omega), Option.bind_some]
  obtain ⟨s, g1, g2⟩ := rangeM_invx (m_gleemake_Stream_ProgramText_l1 L) (List.range v.toNat) (fun i s => ∃ (t : ByteArray) (p : Int), s = (t, p) ∧ 0 ≤ p ∧ p ≤ q1 + 1 + 3 * i ∧ (i = 0 ∧ t.size ≤ 3000 ∨ i = 1 ∧ t.size ≤ 7000 ∨ i = 2)) (by
    rintro i y s hx ⟨t, p, rfl, g2, g3, g4⟩
    have hi : i < v.toNat := by have := (List.getElem?_eq_some_iff.1 hx).1; simpa using this
    unfold m_gleemake_Stream_ProgramText_l1
    simp only
    obtain ⟨t', q', k1, k2, k3, k4⟩ := Changed_spec L (q := p) t (ByteArray.mk [32, 10, 48, 45, 57, 44, 97, 98].toArray) (by omega) (by omega) (by omega) ⟨by decide, by decide⟩
    rw [k1, Option.bind_some]
    exact ⟨_, rfl, t', q', rfl, by omega, by omega, by omega⟩) (toB (progB p), q1 + 1) ⟨_, _, rfl, by omega, by omega, .inl ⟨rfl, by rw [toB_size]; omega⟩⟩
  rw [g1, Option.bind_some, fin_brk]
  exact ⟨_, _, rfl⟩
theorem sung_true : m_gleelaw2_sung = some true := by kernel_rfl
theorem ProgramTexts_true (L : List Int) : m_gleelaw2_ProgramTexts L = some true := by
  unfold m_gleelaw2_ProgramTexts
  obtain ⟨p, q1, h1, h2, h3, -⟩ := AProgram_spec L (q := 0) (most := 4) (by omega) (by omega) (by omega) (by omega)
  rw [h1, Option.bind_some]
  simp only
  obtain ⟨t, q2, h4⟩ := ProgramText_spec L (q := q1) (by omega) (by omega)
  rw [h4, Option.bind_some]
  simp only
  rw [Read_spec, ProgramRead_spec]
  have hb : ∀ a : ByteArray, (a.toList == a.toList) = true := fun a => by simp
  by_cases h0 : checkP p = 0
  · have hf : m_gleeref2_ProgramFault p = some 0 := by rw [checkP_of, h0]
    have hz := fault_sz hf
    rw [Text_spec hz hf, hf, Option.bind_some, Option.bind_some, ProgramLines_spec hz]
    simp only [beq_self_eq_true, ifB_true, Option.bind_some, fin_inl, hb, SameProgram_refl, sung_true]
  · have ht : m_concert_Text p = some (ByteArray.empty, checkP p) := by
      unfold m_concert_Text
      rw [CheckProgram_eq, checkP_of, Option.bind_some, show (checkP p != 0) = true by simpa using h0, ifB_true]
    rw [ht, checkP_of, Option.bind_some, Option.bind_some, show (checkP p == 0) = false by simpa using h0, ifB_false]
    simp only [beq_self_eq_true, ifB_true, Option.bind_some, fin_inl, hb, SameProgram_refl, sung_true]
end Go.G
