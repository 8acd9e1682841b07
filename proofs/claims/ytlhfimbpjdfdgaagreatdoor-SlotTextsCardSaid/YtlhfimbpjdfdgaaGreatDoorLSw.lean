/- LSw: slots are written and read. In plain Lean, no program in sight. -/
import Derived.Test.YtlhfimbpjdfdgaaGreatDoorLSl
import Derived.Test.YtlhfimbpjdfdgaaGreatDoorLT3k
import Derived.Test.YtlhfimbpjdfdgaaGreatDoorLT4
import Derived.Test.YtlhfimbpjdfdgaaGreatDoorLT5r
namespace Go.G
open Go Go.J
set_option linter.unusedSimpArgs false
set_option linter.unusedVariables false
def bs (a : ByteArray) : BL := a.data.toList
theorem ba_bs (a : ByteArray) : a = toB (bs a) := (toB_data a).symm
/-! a line is read -/
def slotL (x : BL) : Option TSlot := if [] ∈ spl 32 x then none else match spl 32 x with
  | [k, r, p, t, a, b] => match allN [toB a, toB b] with
    | some [n0, n1] => if t = [45] then some ⟨toB k, toB r, toB p, [], ⟨n0, n1⟩⟩ else if [] ∈ spl 44 t then none else some ⟨toB k, toB r, toB p, (spl 44 t).map toB, ⟨n0, n1⟩⟩
    | _ => none
  | _ => none
theorem slotL_len {x : BL} (h : (spl 32 x).length ≠ 6) : slotL x = none := by
  unfold slotL
  split
  · rfl
  · split
    · rename_i e; rw [e] at h; simp at h
    · rfl
theorem len6 {α : Type} {l : List α} (h : l.length = 6) : ∃ a b c d e f, l = [a, b, c, d, e, f] := by
  match l, h with
  | [a, b, c, d, e, f], _ => exact ⟨a, b, c, d, e, f, rfl⟩
theorem allN2 {l : List ByteArray} {r : List Int} (h : allN l = some r) (hl : l.length = 2) : ∃ a b, r = [a, b] := by
  have := allN_len l r h
  rw [hl] at this
  match r, this with
  | [a, b], _ => exact ⟨a, b, rfl⟩
theorem dash_tl (t : BL) : ((toB t).toList == (ByteArray.mk [45].toArray).toList) = decide (t = [45]) := by
  rw [ba_tl, data_toB]
theorem hasE (t : BL) : hasB ByteArray.empty ((spl 44 t).map toB) = decide ([] ∈ spl 44 t) := by
  rw [Bool.eq_iff_iff, hasB_iff, decide_eq_true_eq]; exact mem_toB_nil _
theorem readLine_spec (x : BL) (hx : x.length ≤ 200000) : ∃ y, m_rehearse_readLine (toB x) = some (y, (slotL x).isSome) ∧ ∀ z, slotL x = some z → y = z := by
  have hsz : (toB x).size < 4294967281 := by rw [toB_size]; omega
  unfold m_rehearse_readLine
  rw [kitWords_spec _ hsz, Option.bind_some, data_toB]
  by_cases hn : [] ∈ spl 32 x
  · rw [if_pos hn]
    have e : slotL x = none := by unfold slotL; rw [if_pos hn]
    rw [e]
    exact ⟨_, rfl, fun z hz => by cases hz⟩
  rw [if_neg hn]
  simp only [Bool.not_true, ifB_false, Option.bind_some, fin_inl]
  by_cases hl : (spl 32 x).length ≠ 6
  · rw [slotL_len hl, show ((((spl 32 x).map toB).length : Int) != 6) = true by simp; omega]
    exact ⟨_, rfl, fun z hz => by cases hz⟩
  obtain ⟨k, r, p, t, a, b, hw⟩ := len6 (show (spl 32 x).length = 6 by omega)
  have hwt : t.length ≤ 200000 := Nat.le_trans (spl_size (c := 32) (s := x) (by rw [hw]; simp)) hx
  have hwa : a.length ≤ 200000 := Nat.le_trans (spl_size (c := 32) (s := x) (by rw [hw]; simp)) hx
  have hwb : b.length ≤ 200000 := Nat.le_trans (spl_size (c := 32) (s := x) (by rw [hw]; simp)) hx
  have e6 : ((((spl 32 x).map toB).length : Int) != 6) = false := by rw [hw]; rfl
  rw [e6, ifB_false]
  unfold slotL
  rw [if_neg hn, hw]
  simp only [List.map_cons, List.map_nil]
  have e1 : sliceI [toB k, toB r, toB p, toB t, toB a, toB b] 4 (([toB k, toB r, toB p, toB t, toB a, toB b] : List ByteArray).length : Int) = some [toB a, toB b] := by
    show sliceI [toB k, toB r, toB p, toB t, toB a, toB b] 4 6 = _
    rw [sliceI_of (lo := 4) (a := 4) (hi := 6) (b := 6) rfl rfl (by decide) (by simp)]; rfl
  rw [e1, Option.bind_some, kitNums_spec [toB a, toB b] (fun z hz => by
    simp only [List.mem_cons, List.not_mem_nil, or_false] at hz
    rcases hz with rfl | rfl <;> rw [toB_size] <;> omega) (by simp), Option.bind_some]
  cases ha : allN [toB a, toB b] with
  | none => exact ⟨_, rfl, fun z hz => by cases hz⟩
  | some ns =>
    obtain ⟨n0, n1, rfl⟩ := allN2 ha rfl
    simp only [Bool.not_true, ifB_false]
    rw [show getI [toB k, toB r, toB p, toB t, toB a, toB b] 0 = some (toB k) from rfl, show getI [toB k, toB r, toB p, toB t, toB a, toB b] 1 = some (toB r) from rfl, show getI [toB k, toB r, toB p, toB t, toB a, toB b] 2 = some (toB p) from rfl, show getI [toB k, toB r, toB p, toB t, toB a, toB b] 3 = some (toB t) from rfl, show getI [n0, n1] 0 = some n0 from rfl, show getI [n0, n1] 1 = some n1 from rfl]
    simp only [Option.bind_some]
    rw [dash_tl]
    by_cases hd : t = [45]
    · rw [decide_eq_true hd, if_pos hd, Bool.not_true, ifB_false, Option.bind_some, fin_inl, ContainsS_dec, Option.bind_some]
      exact ⟨_, rfl, fun z hz => by cases hz; rfl⟩
    · rw [decide_eq_false hd, if_neg hd, Bool.not_false, ifB_true, show (ByteArray.mk [44].toArray) = oneB 44 from rfl, Split_spec 44 _ (by rw [toB_size]; omega), Option.bind_some, data_toB, Option.bind_some, fin_inl, ContainsS_dec, Option.bind_some, hasE]
      by_cases hc : [] ∈ spl 44 t
      · rw [decide_eq_true hc, if_pos hc]
        exact ⟨_, rfl, fun z hz => by cases hz⟩
      · rw [decide_eq_false hc, if_neg hc]
        exact ⟨_, rfl, fun z hz => by cases hz; rfl⟩
theorem closure_spec (x : BL) (L : List TSlot) (hx : x.length ≤ 200000) (hL : L.length ≤ 400000) : ∃ y, m_gleeref2_SlotsRead_1 (toB x) L = some y ∧ y.1 = (slotL x).isSome ∧ ∀ z, slotL x = some z → y = (true, L ++ [z]) := by
  have hsz : (toB x).size < 4294967281 := by rw [toB_size]; omega
  unfold m_gleeref2_SlotsRead_1
  rw [refWords_spec _ hsz, Option.bind_some, data_toB]
  by_cases hn : [] ∈ spl 32 x
  · have e : slotL x = none := by unfold slotL; rw [if_pos hn]
    rw [decide_eq_true hn, e]
    exact ⟨_, rfl, rfl, fun z hz => by cases hz⟩
  rw [decide_eq_false hn]
  simp only [Bool.not_true, Bool.not_false, ifB_false, Option.bind_some, fin_inl]
  by_cases hl : (spl 32 x).length ≠ 6
  · rw [slotL_len hl, show ((((spl 32 x).map toB).length : Int) != 6) = true by simp; omega]
    exact ⟨_, rfl, rfl, fun z hz => by cases hz⟩
  obtain ⟨k, r, p, t, a, b, hw⟩ := len6 (show (spl 32 x).length = 6 by omega)
  have hwt : t.length ≤ 200000 := Nat.le_trans (spl_size (c := 32) (s := x) (by rw [hw]; simp)) hx
  have hwa : a.length ≤ 200000 := Nat.le_trans (spl_size (c := 32) (s := x) (by rw [hw]; simp)) hx
  have hwb : b.length ≤ 200000 := Nat.le_trans (spl_size (c := 32) (s := x) (by rw [hw]; simp)) hx
  have e6 : ((((spl 32 x).map toB).length : Int) != 6) = false := by rw [hw]; rfl
  rw [e6, ifB_false]
  unfold slotL
  rw [if_neg hn, hw]
  simp only [List.map_cons, List.map_nil]
  have e1 : sliceI [toB k, toB r, toB p, toB t, toB a, toB b] 4 (([toB k, toB r, toB p, toB t, toB a, toB b] : List ByteArray).length : Int) = some [toB a, toB b] := by
    show sliceI [toB k, toB r, toB p, toB t, toB a, toB b] 4 6 = _
    rw [sliceI_of (lo := 4) (a := 4) (hi := 6) (b := 6) rfl rfl (by decide) (by simp)]; rfl
  obtain ⟨ns, h1, h2, h3⟩ := numsIn_spec [toB a, toB b] (fun z hz => by
    simp only [List.mem_cons, List.not_mem_nil, or_false] at hz
    rcases hz with rfl | rfl <;> rw [toB_size] <;> omega) (by simp)
  obtain ⟨n0, n1, rfl⟩ : ∃ p q, ns = [p, q] := by
    match ns, h2 with
    | [p, q], _ => exact ⟨p, q, rfl⟩
  rw [e1, Option.bind_some, h1, Option.bind_some]
  rw [show getI [toB k, toB r, toB p, toB t, toB a, toB b] 0 = some (toB k) from rfl, show getI [toB k, toB r, toB p, toB t, toB a, toB b] 1 = some (toB r) from rfl, show getI [toB k, toB r, toB p, toB t, toB a, toB b] 2 = some (toB p) from rfl, show getI [toB k, toB r, toB p, toB t, toB a, toB b] 3 = some (toB t) from rfl, show getI [n0, n1] 0 = some n0 from rfl, show getI [n0, n1] 1 = some n1 from rfl]
  simp only [Option.bind_some]
  rw [dash_tl]
  have app : ∀ z : TSlot, appM 88 L [z] = some (L ++ [z]) := fun z => appM_of (by simp; omega) (by omega)
  have hns : ∀ m0 m1, allN [toB a, toB b] = some [m0, m1] → n0 = m0 ∧ n1 = m1 := fun m0 m1 h => by
    have := h3 _ h
    injection this with q1 q2
    injection q2 with q2 q3
    exact ⟨q1, q2⟩
  by_cases hd : t = [45]
  · rw [decide_eq_true hd, Bool.not_true, ifB_false, Option.bind_some, fin_inl, app, Option.bind_some]
    cases ha : allN [toB a, toB b] with
    | none =>
      simp only [Option.isSome_none, ifB_false]
      exact ⟨_, rfl, rfl, fun z hz => by cases hz⟩
    | some ns =>
      obtain ⟨m0, m1, rfl⟩ := allN2 ha rfl
      obtain ⟨rfl, rfl⟩ := hns m0 m1 ha
      simp only [Option.isSome_some, ifB_true]
      rw [if_pos hd, ContainsS_dec, Option.bind_some]
      exact ⟨_, rfl, rfl, fun z hz => by cases hz; rfl⟩
  · rw [decide_eq_false hd, Bool.not_false, ifB_true, show (ByteArray.mk [44].toArray) = oneB 44 from rfl, Split_spec 44 _ (by rw [toB_size]; omega), Option.bind_some, data_toB, Option.bind_some, fin_inl, app, Option.bind_some]
    cases ha : allN [toB a, toB b] with
    | none =>
      simp only [Option.isSome_none, ifB_false]
      exact ⟨_, rfl, rfl, fun z hz => by cases hz⟩
    | some ns =>
      obtain ⟨m0, m1, rfl⟩ := allN2 ha rfl
      obtain ⟨rfl, rfl⟩ := hns m0 m1 ha
      simp only [Option.isSome_some, ifB_true]
      rw [if_neg hd, ContainsS_dec, Option.bind_some, hasE]
      by_cases hc : [] ∈ spl 44 t
      · rw [decide_eq_true hc, if_pos hc]
        exact ⟨_, rfl, rfl, fun z hz => by cases hz⟩
      · rw [decide_eq_false hc, if_neg hc]
        exact ⟨_, rfl, rfl, fun z hz => by cases hz; rfl⟩
/-! texts are read -/
def slotStep (_ : Nat) (l : List TSlot) (x : BL) : Option (List TSlot) := (slotL x).map fun y => l ++ [y]
def slotI (i : Nat) (l : List TSlot) : Prop := l.length ≤ i
theorem slotStep_I : ∀ i s x z, slotI i s → slotStep i s x = some z → slotI (i + 1) z := by
  intro i s x z h1 h2
  unfold slotStep at h2
  obtain ⟨y, -, rfl⟩ := Option.map_eq_some_iff.1 h2
  unfold slotI at *
  simp; omega
noncomputable def readS (t : ByteArray) : (List TSlot) × Int × Int :=
  if t.size > 200000 then ([], 0, 2)
  else match rdL slotStep 0 (linesOf t.data.toList) [] with
    | .inl k => ([], (k : Int), 9)
    | .inr s => if leftOf t.data.toList = [] then (if slotsF s ≠ 0 then ([], 0, slotsF s) else (s, 0, 0)) else ([], ((linesOf t.data.toList).length : Int), 9)
theorem step_spec (Ls : List ByteArray) (ended : Bool) (i : Nat) (s : List TSlot) (x : BL) (hs : s.length ≤ 400000) (hx : x.length ≤ 200000) (hLs : Ls.length ≤ 400000) (he : ended = false → i + 1 < Ls.length) :
    m_rehearse_Read_l1 (Ls, ended) i (toB x) s = some (match slotStep i s x with | some z => .nxt z | none => .ret ([], (i : Int), 9)) := by
  obtain ⟨y, h1, h2⟩ := readLine_spec x hx
  unfold m_rehearse_Read_l1 slotStep
  rw [h1, Option.bind_some]
  cases hp : slotL x with
  | none => rfl
  | some z =>
    rw [h2 z hp]
    simp only [Option.isSome_some, Bool.not_true, ifB_false, Option.map_some]
    have app : appM 88 s [z] = some (s ++ [z]) := appM_of (by simp; omega) (by omega)
    cases ended with
    | true => simp only [Bool.not_true, ifB_false, Option.bind_some, fin_inl, app]
    | false =>
      have hne : ((i : Int) == (w64 ((Ls.length : Int) - 1))) = false := by
        rw [w64_id (by omega)]
        have := he rfl
        rw [beq_eq_false_iff_ne]; omega
      simp only [Bool.not_false, ifB_true, Option.bind_some, fin_inl, hne, ifB_false, app]
theorem Read_spec (t : ByteArray) : m_rehearse_Read t = some (readS t) := by
  unfold m_rehearse_Read readS
  by_cases hbig : t.size > 200000
  · rw [decide_eq_true (by omega), if_pos hbig]; rfl
  rw [decide_eq_false (by omega), if_neg hbig, ifB_false, kitLines_spec t (by omega)]
  have hsz : t.data.toList.length ≤ 200000 := by rw [← size_data]; omega
  have hP := lines_len t.data.toList
  have hx : ∀ x ∈ linesOf t.data.toList, x.length ≤ 200000 := fun x hx => Nat.le_trans (lines_size hx) hsz
  have hleft : (leftOf t.data.toList).length ≤ 200000 := Nat.le_trans (left_size _) hsz
  have fin : ∀ s : List TSlot, ((m_rehearse_CheckSlots s).bind fun y23 => ifB (y23 != 0) (some (([] : List TSlot), (0 : Int), y23)) (some (s, 0, 0))) = some (if slotsF s ≠ 0 then ([], 0, slotsF s) else (s, 0, 0)) := fun s => by
    rw [(slots_spec s).1, Option.bind_some]
    by_cases hc : slotsF s = 0
    · rw [hc, if_neg (by simp)]; rfl
    · rw [show (slotsF s != 0) = true by simpa using hc, if_pos hc]; rfl
  by_cases h0 : t.data.toList = []
  · rw [if_pos h0, Option.bind_some]
    simp only [rangeM_nil, Option.bind_some, fin_brk]
    rw [fin, h0]; rfl
  rw [if_neg h0]
  by_cases hl : leftOf t.data.toList = []
  · rw [if_pos hl]
    have hr := progLoop (m_rehearse_Read_l1 ((linesOf t.data.toList).map toB, true)) slotStep slotI (fun k => ([], (k : Int), 9)) (linesOf t.data.toList).length slotStep_I (fun i s x hI hx hi => by rw [step_spec ((linesOf t.data.toList).map toB) true i s x (by unfold slotI at hI; omega) hx (by rw [List.length_map]; omega) (fun h => by cases h)]; cases slotStep i s x <;> rfl) [] (linesOf t.data.toList) 0 [] hx (by simp [slotI]) (by omega)
    rw [List.append_nil] at hr
    simp only [Option.bind_some]
    rw [hr]
    cases hrd : rdL slotStep 0 (linesOf t.data.toList) [] with
    | inl k => rfl
    | inr s =>
      simp only [rangeM_nil, Option.bind_some, fin_brk]
      rw [fin, if_pos hl]
  · rw [if_neg hl]
    simp only [Option.bind_some]
    have hr := progLoop (m_rehearse_Read_l1 ((linesOf t.data.toList ++ [leftOf t.data.toList]).map toB, false)) slotStep slotI (fun k => ([], (k : Int), 9)) (linesOf t.data.toList).length slotStep_I (fun i s x hI hx hi => by rw [step_spec ((linesOf t.data.toList ++ [leftOf t.data.toList]).map toB) false i s x (by unfold slotI at hI; omega) hx (by simp; omega) (fun _ => by simp; omega)]; cases slotStep i s x <;> rfl) [toB (leftOf t.data.toList)] (linesOf t.data.toList) 0 [] hx (by simp [slotI]) (by omega)
    rw [show (linesOf t.data.toList ++ [leftOf t.data.toList]).map toB = (linesOf t.data.toList).map toB ++ [toB (leftOf t.data.toList)] by simp] at hr ⊢
    rw [hr]
    cases hrd : rdL slotStep 0 (linesOf t.data.toList) [] with
    | inl k => rfl
    | inr s =>
      have hsl : s.length ≤ (linesOf t.data.toList).length := by
        have := rdL_inv slotStep slotI slotStep_I _ _ _ _ (by simp [slotI]) hrd
        unfold slotI at this
        omega
      simp only [rangeM_cons, rangeM_nil, Nat.zero_add]
      have hlast : m_rehearse_Read_l1 ((linesOf t.data.toList).map toB ++ [toB (leftOf t.data.toList)], false) (linesOf t.data.toList).length (toB (leftOf t.data.toList)) s = some (.ret ([], ((linesOf t.data.toList).length : Int), 9)) := by
        obtain ⟨y, h1, h2⟩ := readLine_spec (leftOf t.data.toList) hleft
        unfold m_rehearse_Read_l1
        rw [h1, Option.bind_some]
        have hq : (((linesOf t.data.toList).length : Int) == (w64 ((((linesOf t.data.toList).map toB ++ [toB (leftOf t.data.toList)]).length : Int) - 1))) = true := by
          rw [w64_id (by simp; omega)]
          simp
        cases (slotL (leftOf t.data.toList)).isSome with
        | false => simp only [Bool.not_false, ifB_true, Option.bind_some, fin_inl]
        | true => simp only [Bool.not_true, Bool.not_false, ifB_false, ifB_true, Option.bind_some, fin_inl, hq]
      rw [hlast, if_neg hl]; rfl
theorem SlotsRead_spec (t : ByteArray) : m_gleeref2_SlotsRead t = some (readS t) := by
  unfold m_gleeref2_SlotsRead readS
  by_cases hbig : t.size > 200000
  · rw [decide_eq_true (by omega), if_pos hbig]; rfl
  rw [decide_eq_false (by omega), if_neg hbig, ifB_false]
  have hsz : t.data.toList.length ≤ 200000 := by rw [← size_data]; omega
  have hP := lines_len t.data.toList
  have fin : ∀ s : List TSlot, ((m_gleeref2_SlotsFault s).bind fun y7 => ifB (y7 != 0) (some (([] : List TSlot), (0 : Int), y7)) (some (s, 0, 0))) = some (if slotsF s ≠ 0 then ([], 0, slotsF s) else (s, 0, 0)) := fun s => by
    rw [(slots_spec s).2.1, Option.bind_some]
    by_cases hc : slotsF s = 0
    · rw [hc, if_neg (by simp)]; rfl
    · rw [show (slotsF s != 0) = true by simpa using hc, if_pos hc]; rfl
  have hrl := refLoop m_gleeref2_Lines__gleeref2_SlotsRead_1_l1 slotStep slotI (fun v i => v.1 = i ∧ v.2.1 = false) slotStep_I (by
      intro i s
      unfold m_gleeref2_Lines__gleeref2_SlotsRead_1_l1
      simp only
      rw [ba_nil, data_toB]; rfl) (by
      intro i s l h hl
      unfold m_gleeref2_Lines__gleeref2_SlotsRead_1_l1
      simp only
      rw [ba_nil, data_toB, decide_eq_false h, show (ByteArray.mk [10].toArray) = oneB 10 from rfl, Cut_miss (c := 10) (s := toB l) hl]
      exact ⟨_, rfl, rfl, rfl⟩) (by
      intro i s x r hI hx1 hx2 hj hi
      obtain ⟨y, hy1, hy2, hy3⟩ := closure_spec x s hx2 (by unfold slotI at hI; omega)
      unfold m_gleeref2_Lines__gleeref2_SlotsRead_1_l1
      simp only
      rw [ba_nil, data_toB, decide_eq_false (by simp), Bool.not_false, ifB_true, show (ByteArray.mk [10].toArray) = oneB 10 from rfl, Cut_hit (data_toB _) hx1 (by rw [toB_size]; omega), Option.bind_some]
      simp only [Bool.not_true, ifB_false]
      rw [hy1, Option.bind_some, Option.bind_some, fin_inl]
      simp only
      rw [hy2]
      unfold slotStep
      cases hp : slotL x with
      | none => exact ⟨_, rfl, _, rfl, rfl, rfl⟩
      | some z =>
        have := hy3 z hp
        subst this
        simp only [Option.isSome_some, Bool.not_true, ifB_false, Option.map_some]
        refine ⟨_, rfl, ?_⟩
        rw [w64_id (by omega)]
        simp) (leftOf t.data.toList) (leftOf_nl _) (linesOf t.data.toList) 0 [] (fun x hx => ⟨linesOf_nl hx, Nat.le_trans (lines_size hx) hsz⟩) (by rw [text_of]; exact hsz) (by simp [slotI]) (by omega)
  rw [text_of, toB_data] at hrl
  unfold m_gleeref2_Lines__gleeref2_SlotsRead_1
  cases hrd : rdL slotStep 0 (linesOf t.data.toList) [] with
  | inl k =>
    rw [hrd] at hrl
    obtain ⟨v, h1, h2, h3⟩ := hrl
    rw [show ((0 : Nat) : Int) = 0 from rfl] at h1
    rw [h1]
    simp only [Option.bind_some, Flow.fin, h3, Bool.not_false, ifB_true, fin_inl, h2]
  | inr s =>
    rw [hrd] at hrl
    simp only at hrl
    by_cases hl : leftOf t.data.toList = []
    · rw [if_pos hl] at hrl
      rw [show ((0 : Nat) : Int) = 0 from rfl] at hrl
      rw [hrl]
      simp only
      rw [if_pos hl]
      simp only [Option.bind_some, fin_brk, Bool.not_true, ifB_false, fin_inl, fin]
    · rw [if_neg hl] at hrl
      obtain ⟨v, h1, h2, h3⟩ := hrl
      rw [show ((0 : Nat) : Int) = 0 from rfl] at h1
      rw [h1]
      simp only
      rw [if_neg hl]
      simp only [Option.bind_some, Flow.fin, h3, Bool.not_false, ifB_true, fin_inl, h2, Nat.zero_add]
end Go.G
