/- LAv: ActTexts' law: acts as text and read again answer as the reference. In plain Lean, no program in sight. -/
import Derived.Test.YtobglahldcnnmacGreatDoorLAw
import Derived.Test.YtobglahldcnnmacGreatDoorLAu
import Derived.Test.YtobglahldcnnmacGreatDoorLT4
import Derived.Test.YtobglahldcnnmacGreatDoorLY6
import Derived.Test.YtobglahldcnnmacGreatDoorLAr
namespace Go.G
open Go Go.J
set_option linter.unusedSimpArgs false
set_option linter.unusedVariables false
theorem yes_tab (b : Bool) : (lkM (putM (putM ([] : (List (Bool × ByteArray))) true (ByteArray.mk [32, 121, 101, 115].toArray)) false (ByteArray.mk [32, 110, 111].toArray)) b).getD ByteArray.empty = toB (32 :: (if b = true then yesW else noW)) := by cases b <;> rfl
theorem ba_bs (a : ByteArray) : a = toB (bs a) := (toB_data a).symm
theorem ActLines_l1_spec {x : TAct} (h : ActSz x) (i : Nat) (u : BL) (hu : u.length ≤ 500000) : m_gleeref2_ActLines_l1 i x (toB u) = some (.nxt (toB (u ++ lineA x))) := by
  have hl := lineA_len h
  have h1 := h.site; have h2 := h.who; have h3 := h.mot; have h4 := h.of_
  have h5 := itoa_len h.no; have h6 := itoa_len h.at_; have h7 := itoa_len h.cts; have h8 := itoa_len h.oth
  have hy : ∀ b : Bool, (if b = true then yesW else noW).length ≤ 3 := fun b => by cases b <;> decide
  have hy := hy x.Yes
  have eL : lineA x = jn 32 (actW x) ++ [10] := rfl
  unfold m_gleeref2_ActLines_l1
  rw [Numbers_is [x.No, x.At] (by simp) (by
    intro n hn
    simp only [List.mem_cons, List.not_mem_nil, or_false] at hn
    rcases hn with rfl | rfl
    · exact h.no
    · exact h.at_), yes_tab, Itoa_is h.cts, Itoa_is h.oth, ba_bs x.Site, ba_bs x.Who, ba_bs x.Motion, ba_bs x.Of, eB, eN]
  simp only [List.map_cons, List.map_nil, jn]
  generalize hY : (if x.Yes = true then yesW else noW) = Y at hy
  have go : ∀ {a b : BL} {F : ByteArray → Option (Flow ByteArray ByteArray)}, a.length + b.length ≤ 1000000 → (catM (toB a) (toB b)).bind F = F (toB (a ++ b)) := fun hab => by rw [cat_is hab, Option.bind_some]
  rw [go (by simp; omega), Option.bind_some, go (by simp; omega), go (by simp; omega), go (by simp; omega)]
  rcases h.kind with e | e | e | e | e | e | e
  · rw [e]
    simp only [show ((1 : Int) == 1) = true from rfl, ifB_true, ifB_false]
    rw [show ByteArray.mk [106, 111, 105, 110, 32].toArray = toB (joinW ++ [32]) from rfl]
    have hw : (joinW ++ [32]).length ≤ 5 := by decide
    rw [go (by simp only [List.length_append, List.length_cons, List.length_nil] at hw ⊢; omega)]
    rw [go (by simp only [List.length_append, List.length_cons, List.length_nil] at hw ⊢; omega)]
    rw [Option.bind_some]
    rw [go (by simp only [List.length_append, List.length_cons, List.length_nil] at hw ⊢; omega)]
    rw [go (by simp only [List.length_append, List.length_cons, List.length_nil] at hw ⊢; omega)]
    rw [go (by simp only [List.length_append, List.length_cons, List.length_nil] at hw ⊢; omega)]
    rw [eL]
    simp [actW, restL, e, kwB, jn, hY]
  · rw [e]
    simp only [show ((2 : Int) == 1) = false from rfl, show ((2 : Int) == 2) = true from rfl, ifB_true, ifB_false]
    rw [show ByteArray.mk [113, 117, 105, 116, 32].toArray = toB (quitW ++ [32]) from rfl]
    have hw : (quitW ++ [32]).length ≤ 5 := by decide
    rw [go (by simp only [List.length_append, List.length_cons, List.length_nil] at hw ⊢; omega)]
    rw [go (by simp only [List.length_append, List.length_cons, List.length_nil] at hw ⊢; omega)]
    rw [go (by simp only [List.length_append, List.length_cons, List.length_nil] at hw ⊢; omega)]
    rw [eL]
    simp [actW, restL, e, kwB, jn, hY]
  · rw [e]
    simp only [show ((3 : Int) == 1) = false from rfl, show ((3 : Int) == 2) = false from rfl, show ((3 : Int) == 3) = true from rfl, ifB_true, ifB_false]
    rw [show ByteArray.mk [112, 97, 121, 32].toArray = toB (payW ++ [32]) from rfl]
    have hw : (payW ++ [32]).length ≤ 5 := by decide
    rw [go (by simp only [List.length_append, List.length_cons, List.length_nil] at hw ⊢; omega)]
    rw [go (by simp only [List.length_append, List.length_cons, List.length_nil] at hw ⊢; omega)]
    rw [Option.bind_some]
    rw [go (by simp only [List.length_append, List.length_cons, List.length_nil] at hw ⊢; omega)]
    rw [go (by simp only [List.length_append, List.length_cons, List.length_nil] at hw ⊢; omega)]
    rw [go (by simp only [List.length_append, List.length_cons, List.length_nil] at hw ⊢; omega)]
    rw [eL]
    simp [actW, restL, e, kwB, jn, hY]
  · rw [e]
    simp only [show ((4 : Int) == 1) = false from rfl, show ((4 : Int) == 2) = false from rfl, show ((4 : Int) == 3) = false from rfl, show ((4 : Int) == 4) = true from rfl, ifB_true, ifB_false]
    rw [show ByteArray.mk [112, 117, 116, 32].toArray = toB (putW ++ [32]) from rfl]
    have hw : (putW ++ [32]).length ≤ 5 := by decide
    rw [go (by simp only [List.length_append, List.length_cons, List.length_nil] at hw ⊢; omega)]
    rw [go (by simp only [List.length_append, List.length_cons, List.length_nil] at hw ⊢; omega)]
    rw [go (by simp only [List.length_append, List.length_cons, List.length_nil] at hw ⊢; omega)]
    rw [eL]
    simp [actW, restL, e, kwB, jn, hY]
  · rw [e]
    simp only [show ((5 : Int) == 1) = false from rfl, show ((5 : Int) == 2) = false from rfl, show ((5 : Int) == 3) = false from rfl, show ((5 : Int) == 4) = false from rfl, show ((5 : Int) == 5) = true from rfl, ifB_true, ifB_false]
    rw [show ByteArray.mk [118, 111, 116, 101, 32].toArray = toB (voteW ++ [32]) from rfl]
    have hw : (voteW ++ [32]).length ≤ 5 := by decide
    rw [go (by simp only [List.length_append, List.length_cons, List.length_nil] at hw ⊢; omega)]
    rw [go (by simp only [List.length_append, List.length_cons, List.length_nil] at hw ⊢; omega)]
    rw [go (by simp only [List.length_append, List.length_cons, List.length_nil] at hw ⊢; omega)]
    rw [go (by simp only [List.length_append, List.length_cons, List.length_nil] at hw ⊢; omega)]
    rw [go (by simp only [List.length_append, List.length_cons, List.length_nil] at hw ⊢; omega)]
    rw [go (by simp only [List.length_append, List.length_cons, List.length_nil] at hw ⊢; omega)]
    rw [eL]
    simp [actW, restL, e, kwB, jn, hY]
  · rw [e]
    simp only [show ((6 : Int) == 1) = false from rfl, show ((6 : Int) == 2) = false from rfl, show ((6 : Int) == 3) = false from rfl, show ((6 : Int) == 4) = false from rfl, show ((6 : Int) == 5) = false from rfl, show ((6 : Int) == 6) = true from rfl, ifB_true, ifB_false]
    rw [show ByteArray.mk [101, 110, 100, 32].toArray = toB (endW ++ [32]) from rfl]
    have hw : (endW ++ [32]).length ≤ 5 := by decide
    rw [go (by simp only [List.length_append, List.length_cons, List.length_nil] at hw ⊢; omega)]
    rw [go (by simp only [List.length_append, List.length_cons, List.length_nil] at hw ⊢; omega)]
    rw [go (by simp only [List.length_append, List.length_cons, List.length_nil] at hw ⊢; omega)]
    rw [eL]
    simp [actW, restL, e, kwB, jn, hY]
  · rw [e]
    simp only [show ((7 : Int) == 1) = false from rfl, show ((7 : Int) == 2) = false from rfl, show ((7 : Int) == 3) = false from rfl, show ((7 : Int) == 4) = false from rfl, show ((7 : Int) == 5) = false from rfl, show ((7 : Int) == 6) = false from rfl, ifB_true, ifB_false]
    rw [show ByteArray.mk [117, 110, 100, 111, 32].toArray = toB (undoW ++ [32]) from rfl]
    have hw : (undoW ++ [32]).length ≤ 5 := by decide
    rw [go (by simp only [List.length_append, List.length_cons, List.length_nil] at hw ⊢; omega)]
    rw [go (by simp only [List.length_append, List.length_cons, List.length_nil] at hw ⊢; omega)]
    rw [Option.bind_some]
    rw [go (by simp only [List.length_append, List.length_cons, List.length_nil] at hw ⊢; omega)]
    rw [go (by simp only [List.length_append, List.length_cons, List.length_nil] at hw ⊢; omega)]
    rw [go (by simp only [List.length_append, List.length_cons, List.length_nil] at hw ⊢; omega)]
    rw [eL]
    simp [actW, restL, e, kwB, jn, hY]
theorem flat_len {l : List TAct} (hs : ∀ x ∈ l, ActSz x) : (l.flatMap lineA).length ≤ 250 * l.length := by
  induction l with
  | nil => simp
  | cons x l ih =>
    have h1 := ih fun y hy => hs y (List.mem_cons_of_mem _ hy)
    have h2 := lineA_len (hs x (List.mem_cons_self ..))
    simp only [List.flatMap_cons, List.length_append, List.length_cons]
    omega
theorem ActLines_spec {l : List TAct} (h : ∀ x ∈ l, ActSz x) (hl : l.length ≤ 1000) : m_gleeref2_ActLines l = some (toB (l.flatMap lineA)) := by
  unfold m_gleeref2_ActLines
  obtain ⟨u, g1, g2⟩ := rangeM_invx m_gleeref2_ActLines_l1 l (fun i u => u = toB ((l.take i).flatMap lineA)) (by
    rintro i x u hx rfl
    have hi := (List.getElem?_eq_some_iff.1 hx).1
    have hfl := flat_len (l := l.take i) (fun y hy => h y (List.take_subset _ _ hy))
    rw [List.length_take] at hfl
    refine ⟨_, ActLines_l1_spec (h x (List.mem_of_getElem? hx)) i _ (by omega), ?_⟩
    rw [List.take_add_one, hx]
    simp [List.flatMap_append]) ByteArray.empty rfl
  rw [g1, Option.bind_some, fin_brk, g2, List.take_length]
theorem Text_spec {l : List TAct} (hok : ActsOK l) (hl : l.length ≤ 700) : m_club_Text l = some (toB (l.flatMap lineA), 0) := by
  have h : ∀ x ∈ l, ActSz x := fun x hx => actSz (hok.ok x hx)
  unfold m_club_Text
  rw [CheckActs_spec, (actsF_zero l).2 hok, Option.bind_some, show ((0 : Int) != 0) = false from rfl, ifB_false]
  obtain ⟨u, g1, g2⟩ := rangeM_invx m_club_Text_l1 l (fun i u => u = toB ((l.take i).flatMap lineA)) (by
    rintro i x u hx rfl
    have hi := (List.getElem?_eq_some_iff.1 hx).1
    have hfl := flat_len (l := l.take i) (fun y hy => h y (List.take_subset _ _ hy))
    rw [List.length_take] at hfl
    have hz := h x (List.mem_of_getElem? hx)
    have := lineA_len hz
    unfold m_club_Text_l1
    rw [actText_spec hz, Option.bind_some, write_is (by omega), Option.bind_some]
    refine ⟨_, rfl, ?_⟩
    rw [List.take_add_one, hx]
    simp [List.flatMap_append]) ByteArray.empty rfl
  have := flat_len h
  rw [g1, Option.bind_some, fin_brk, g2, List.take_length, toB_size, decide_eq_false (by omega)]; rfl
/-! reading -/
def actsStep (_ : Nat) (l : List TAct) (x : BL) : Option (List TAct) := (actL x).map fun y => l ++ [y]
def actsI (i : Nat) (l : List TAct) : Prop := l.length ≤ i
theorem actsStep_I : ∀ i s x z, actsI i s → actsStep i s x = some z → actsI (i + 1) z := by
  intro i s x z h1 h2
  unfold actsStep at h2
  obtain ⟨y, -, rfl⟩ := Option.map_eq_some_iff.1 h2
  unfold actsI at *
  simp; omega
noncomputable def readA (t : ByteArray) : (List TAct) × Int × Int :=
  if t.size > 200000 then ([], 0, 2)
  else match rdL actsStep 0 (linesOf t.data.toList) [] with
    | .inl k => ([], (k : Int), 9)
    | .inr s => if leftOf t.data.toList = [] then (if actsF s ≠ 0 then ([], 0, actsF s) else (s, 0, 0)) else ([], ((linesOf t.data.toList).length : Int), 9)
theorem step_spec (Ls : List ByteArray) (ended : Bool) (i : Nat) (s : List TAct) (x : BL) (hs : s.length ≤ 400000) (hx : x.length ≤ 200000) (hLs : Ls.length ≤ 400000) (he : ended = false → i + 1 < Ls.length) :
    m_club_Read_l1 (Ls, ended) i (toB x) s = some (match actsStep i s x with | some z => .nxt z | none => .ret ([], (i : Int), 9)) := by
  obtain ⟨y, h1, h2⟩ := readAct_spec x hx
  unfold m_club_Read_l1 actsStep
  rw [h1, Option.bind_some]
  cases hp : actL x with
  | none => rfl
  | some z =>
    rw [h2 z hp]
    simp only [Option.isSome_some, Bool.not_true, ifB_false, Option.map_some]
    have app : appM 112 s [z] = some (s ++ [z]) := appM_of (by simp; omega) (by omega)
    cases ended with
    | true => simp only [Bool.not_true, ifB_false, Option.bind_some, fin_inl, app]
    | false =>
      have hne : ((i : Int) == (w64 ((Ls.length : Int) - 1))) = false := by
        rw [w64_id (by omega)]
        have := he rfl
        rw [beq_eq_false_iff_ne]; omega
      simp only [Bool.not_false, ifB_true, Option.bind_some, fin_inl, hne, ifB_false, app]
theorem Read_spec (t : ByteArray) : m_club_Read t = some (readA t) := by
  unfold m_club_Read readA
  by_cases hbig : t.size > 200000
  · rw [decide_eq_true (by omega), if_pos hbig]; rfl
  rw [decide_eq_false (by omega), if_neg hbig, ifB_false, kitLines_spec t (by omega)]
  have hsz : t.data.toList.length ≤ 200000 := by rw [← size_data]; omega
  have hP := lines_len t.data.toList
  have hx : ∀ x ∈ linesOf t.data.toList, x.length ≤ 200000 := fun x hx => Nat.le_trans (lines_size hx) hsz
  have hleft : (leftOf t.data.toList).length ≤ 200000 := Nat.le_trans (left_size _) hsz
  have fin : ∀ s : List TAct, ((m_club_CheckActs s).bind fun y23 => ifB (y23 != 0) (some (([] : List TAct), (0 : Int), y23)) (some (s, 0, 0))) = some (if actsF s ≠ 0 then ([], 0, actsF s) else (s, 0, 0)) := fun s => by
    rw [CheckActs_spec, Option.bind_some]
    by_cases hc : actsF s = 0
    · rw [hc, if_neg (by simp)]; rfl
    · rw [show (actsF s != 0) = true by simpa using hc, if_pos hc]; rfl
  by_cases h0 : t.data.toList = []
  · rw [if_pos h0, Option.bind_some]
    simp only [rangeM_nil, Option.bind_some, fin_brk]
    rw [fin, h0]; rfl
  rw [if_neg h0]
  by_cases hl : leftOf t.data.toList = []
  · rw [if_pos hl]
    have hr := progLoop (m_club_Read_l1 ((linesOf t.data.toList).map toB, true)) actsStep actsI (fun k => ([], (k : Int), 9)) (linesOf t.data.toList).length actsStep_I (fun i s x hI hx hi => by rw [step_spec ((linesOf t.data.toList).map toB) true i s x (by unfold actsI at hI; omega) hx (by rw [List.length_map]; omega) (fun h => by cases h)]; cases actsStep i s x <;> rfl) [] (linesOf t.data.toList) 0 [] hx (by simp [actsI]) (by omega)
    rw [List.append_nil] at hr
    simp only [Option.bind_some]
    rw [hr]
    cases hrd : rdL actsStep 0 (linesOf t.data.toList) [] with
    | inl k => rfl
    | inr s =>
      simp only [rangeM_nil, Option.bind_some, fin_brk]
      rw [fin, if_pos hl]
  · rw [if_neg hl]
    simp only [Option.bind_some]
    have hr := progLoop (m_club_Read_l1 ((linesOf t.data.toList ++ [leftOf t.data.toList]).map toB, false)) actsStep actsI (fun k => ([], (k : Int), 9)) (linesOf t.data.toList).length actsStep_I (fun i s x hI hx hi => by rw [step_spec ((linesOf t.data.toList ++ [leftOf t.data.toList]).map toB) false i s x (by unfold actsI at hI; omega) hx (by simp; omega) (fun _ => by simp; omega)]; cases actsStep i s x <;> rfl) [toB (leftOf t.data.toList)] (linesOf t.data.toList) 0 [] hx (by simp [actsI]) (by omega)
    rw [show (linesOf t.data.toList ++ [leftOf t.data.toList]).map toB = (linesOf t.data.toList).map toB ++ [toB (leftOf t.data.toList)] by simp] at hr ⊢
    rw [hr]
    cases hrd : rdL actsStep 0 (linesOf t.data.toList) [] with
    | inl k => rfl
    | inr s =>
      have hsl : s.length ≤ (linesOf t.data.toList).length := by
        have := rdL_inv actsStep actsI actsStep_I _ _ _ _ (by simp [actsI]) hrd
        unfold actsI at this
        omega
      simp only [rangeM_cons, rangeM_nil, Nat.zero_add]
      have hlast : m_club_Read_l1 ((linesOf t.data.toList).map toB ++ [toB (leftOf t.data.toList)], false) (linesOf t.data.toList).length (toB (leftOf t.data.toList)) s = some (.ret ([], ((linesOf t.data.toList).length : Int), 9)) := by
        obtain ⟨y, h1, h2⟩ := readAct_spec (leftOf t.data.toList) hleft
        unfold m_club_Read_l1
        rw [h1, Option.bind_some]
        have hq : (((linesOf t.data.toList).length : Int) == (w64 ((((linesOf t.data.toList).map toB ++ [toB (leftOf t.data.toList)]).length : Int) - 1))) = true := by
          rw [w64_id (by simp; omega)]
          simp
        cases (actL (leftOf t.data.toList)).isSome with
        | false => simp only [Bool.not_false, ifB_true, Option.bind_some, fin_inl]
        | true => simp only [Bool.not_true, Bool.not_false, ifB_false, ifB_true, Option.bind_some, fin_inl, hq]
      rw [hlast, if_neg hl]; rfl
theorem ActsRead_spec (t : ByteArray) : m_gleeref2_ActsRead t = some (readA t) := by
  unfold m_gleeref2_ActsRead readA
  by_cases hbig : t.size > 200000
  · rw [decide_eq_true (by omega), if_pos hbig]; rfl
  rw [decide_eq_false (by omega), if_neg hbig, ifB_false]
  have hsz : t.data.toList.length ≤ 200000 := by rw [← size_data]; omega
  have hP := lines_len t.data.toList
  have fin : ∀ s : List TAct, ((m_gleeref2_ActsFault s).bind fun y7 => ifB (y7 != 0) (some (([] : List TAct), (0 : Int), y7)) (some (s, 0, 0))) = some (if actsF s ≠ 0 then ([], 0, actsF s) else (s, 0, 0)) := fun s => by
    rw [ActsFault_spec, Option.bind_some]
    by_cases hc : actsF s = 0
    · rw [hc, if_neg (by simp)]; rfl
    · rw [show (actsF s != 0) = true by simpa using hc, if_pos hc]; rfl
  have hrl := refLoop m_gleeref2_Lines__gleeref2_ActsRead_1_l1 actsStep actsI (fun v i => v.1 = i ∧ v.2.1 = false) actsStep_I (by
      intro i s
      unfold m_gleeref2_Lines__gleeref2_ActsRead_1_l1
      simp only
      rw [ba_nil, data_toB]; rfl) (by
      intro i s l h hl
      unfold m_gleeref2_Lines__gleeref2_ActsRead_1_l1
      simp only
      rw [ba_nil, data_toB, decide_eq_false h, show (ByteArray.mk [10].toArray) = oneB 10 from rfl, Cut_miss (c := 10) (s := toB l) hl]
      exact ⟨_, rfl, rfl, rfl⟩) (by
      intro i s x r hI hx1 hx2 hj hi
      obtain ⟨y, hy1, hy2, hy3⟩ := closure_spec x s hx2 (by unfold actsI at hI; omega)
      unfold m_gleeref2_Lines__gleeref2_ActsRead_1_l1
      simp only
      rw [ba_nil, data_toB, decide_eq_false (by simp), Bool.not_false, ifB_true, show (ByteArray.mk [10].toArray) = oneB 10 from rfl, Cut_hit (data_toB _) hx1 (by rw [toB_size]; omega), Option.bind_some]
      simp only [Bool.not_true, ifB_false]
      rw [hy1, Option.bind_some, Option.bind_some, fin_inl]
      simp only
      rw [hy2]
      unfold actsStep
      cases hp : actL x with
      | none => exact ⟨_, rfl, _, rfl, rfl, rfl⟩
      | some z =>
        have := hy3 z hp
        subst this
        simp only [Option.isSome_some, Bool.not_true, ifB_false, Option.map_some]
        refine ⟨_, rfl, ?_⟩
        rw [w64_id (by omega)]
        simp) (leftOf t.data.toList) (leftOf_nl _) (linesOf t.data.toList) 0 [] (fun x hx => ⟨linesOf_nl hx, Nat.le_trans (lines_size hx) hsz⟩) (by rw [text_of]; exact hsz) (by simp [actsI]) (by omega)
  rw [text_of, toB_data] at hrl
  unfold m_gleeref2_Lines__gleeref2_ActsRead_1
  cases hrd : rdL actsStep 0 (linesOf t.data.toList) [] with
  | inl k =>
    rw [hrd] at hrl
    obtain ⟨v, h1, h2, h3⟩ := hrl
    rw [show ((0 : Nat) : Int) = 0 from rfl] at h1
    rw [h1]
    simp only [Option.bind_some, Flow.fin, h3, Bool.not_false, ifB_true, fin_inl, h2]
  | inr s =>
    rw [hrd] at hrl
    simp only at hrl
    by_cases hl : leftOf t.data.toList = []
    · rw [if_pos hl] at hrl
      rw [show ((0 : Nat) : Int) = 0 from rfl] at hrl
      rw [hrl]
      simp only
      rw [if_pos hl]
      simp only [Option.bind_some, fin_brk, Bool.not_true, ifB_false, fin_inl, fin]
    · rw [if_neg hl] at hrl
      obtain ⟨v, h1, h2, h3⟩ := hrl
      rw [show ((0 : Nat) : Int) = 0 from rfl] at h1
      rw [h1]
      simp only
      rw [if_neg hl]
      simp only [Option.bind_some, Flow.fin, h3, Bool.not_false, ifB_true, fin_inl, h2, Nat.zero_add]
theorem EqualA (a : List TAct) : m_slices_Equal_api_Act_api_Act a a = some true := by
  unfold m_slices_Equal_api_Act_api_Act
  rw [show ((a.length : Int) != (a.length : Int)) = false by simp, ifB_false]
  obtain ⟨s, h1, -⟩ := rangeM_invx (m_slices_Equal_api_Act_api_Act_l1 a) a (fun _ _ => True) (by
    intro i x s hx _
    unfold m_slices_Equal_api_Act_api_Act_l1
    rw [getI_of rfl hx, Option.bind_some, show (!(decide (x = x))) = false by simp, ifB_false]
    exact ⟨_, rfl, trivial⟩) () trivial
  rw [h1]; rfl
theorem clubbed_true : m_gleelaw2_clubbed = some true := by
  unfold m_gleelaw2_clubbed
  rw [show (m_club_Members [(TAct.mk (ByteArray.mk [97].toArray) 1 0 1 (ByteArray.mk [97, 110, 110].toArray) ByteArray.empty 0 false ByteArray.empty 0)] 0) = m_club_Members [oneA] 0 from rfl, one_member]
  kernel_rfl
theorem ActText_spec (L : List Int) {q : Int} (hq : 0 ≤ q) (hq' : q ≤ 1000) : ∃ t q', m_gleemake_Stream_ActText L q = some (t, q') := by
  unfold m_gleemake_Stream_ActText
  obtain ⟨n, h1, h2, h3⟩ := Range_spec L (p := q) (a := 0) (b := 4) (by omega) (by omega) (by omega) (by omega) (by omega)
  rw [h1, Option.bind_some]
  simp only
  obtain ⟨l, q1, h4, h5, h6, h7, h8, -⟩ := RightActs_spec L (p := q + 1) (n := n) (by omega) (by omega) (by omega) (by omega)
  have hz : ∀ x ∈ l, ActSz x := fun x hx => actSz (h7.ok x hx)
  have hlen := flat_len hz
  rw [h4, Option.bind_some]
  simp only
  rw [ActLines_spec hz (by omega), Option.bind_some]
  obtain ⟨v, h12, h13⟩ := Pick_spec L (p := q1) [0, 0, 1, 2] (by omega) (by omega) (by simp) (by simp)
  rw [h12, Option.bind_some]
  simp only
  have hv : 0 ≤ v ∧ v ≤ 2 := by
    simp only [List.mem_cons, List.not_mem_nil, or_false] at h13
    omega
  rw [rangeI_of (by omega), Option.bind_some]
  obtain ⟨s, g1, g2⟩ := rangeM_invx (m_gleemake_Stream_ActText_l1 L) (List.range v.toNat) (fun i s => ∃ (t : ByteArray) (p : Int), s = (t, p) ∧ 0 ≤ p ∧ p ≤ q1 + 1 + 3 * i ∧ (i = 0 ∧ t.size ≤ 3000 ∨ i = 1 ∧ t.size ≤ 7000 ∨ i = 2)) (by
    rintro i y s hx ⟨t, p, rfl, g2, g3, g4⟩
    have hi : i < v.toNat := by have := (List.getElem?_eq_some_iff.1 hx).1; simpa using this
    unfold m_gleemake_Stream_ActText_l1
    simp only
    obtain ⟨t', q', k1, k2, k3, k4⟩ := Changed_spec L (q := p) t (ByteArray.mk [32, 10, 48, 45, 57, 115, 121].toArray) (by omega) (by omega) (by omega) ⟨by decide, by decide⟩
    rw [k1, Option.bind_some]
    exact ⟨_, rfl, t', q', rfl, by omega, by omega, by omega⟩) (toB (l.flatMap lineA), q1 + 1) ⟨_, _, rfl, by omega, by omega, .inl ⟨rfl, by rw [toB_size]; omega⟩⟩
  rw [g1, Option.bind_some, fin_brk]
  exact ⟨_, _, rfl⟩
theorem ActTexts_true (L : List Int) : m_gleelaw2_ActTexts L = some true := by
  unfold m_gleelaw2_ActTexts
  obtain ⟨n, h1, h2, h3⟩ := Range_spec L (p := 0) (a := 0) (b := 6) (by omega) (by omega) (by omega) (by omega) (by omega)
  rw [h1, Option.bind_some]
  simp only
  obtain ⟨l, q1, h4, h5, h6, h7, -⟩ := Acts_spec L (p := 0 + 1) (n := n) (by omega) (by omega) (by omega) (by omega)
  rw [h4, Option.bind_some]
  simp only
  obtain ⟨t, q2, h8⟩ := ActText_spec L (q := q1) (by omega) (by omega)
  rw [h8, Option.bind_some]
  simp only
  rw [Read_spec, ActsRead_spec]
  have hb : ∀ a : ByteArray, (a.toList == a.toList) = true := fun a => by simp
  by_cases h0 : actsF l = 0
  · have hok := (actsF_zero l).1 h0
    rw [Text_spec hok (by omega), ActsFault_spec, h0, Option.bind_some, Option.bind_some, ActLines_spec (fun x hx => actSz (hok.ok x hx)) (by omega)]
    simp only [beq_self_eq_true, ifB_true, Option.bind_some, fin_inl, hb, EqualA, clubbed_true]
  · have ht : m_club_Text l = some (ByteArray.empty, actsF l) := by
      unfold m_club_Text
      rw [CheckActs_spec, Option.bind_some, show (actsF l != 0) = true by simpa using h0, ifB_true]
    rw [ht, ActsFault_spec, Option.bind_some, Option.bind_some, show (actsF l == 0) = false by simpa using h0, ifB_false]
    simp only [beq_self_eq_true, ifB_true, Option.bind_some, fin_inl, hb, EqualA, clubbed_true]
end Go.G
