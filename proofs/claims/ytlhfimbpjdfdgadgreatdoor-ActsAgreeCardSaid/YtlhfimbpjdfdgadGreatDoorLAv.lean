/- LAv: ActTexts' law: acts as text and read again answer as the reference. In plain Lean, no program in sight. -/
import Derived.Test.YtlhfimbpjdfdgadGreatDoorLAw
import Derived.Test.YtlhfimbpjdfdgadGreatDoorLAu
import Derived.Test.YtlhfimbpjdfdgadGreatDoorLT4
import Derived.Test.YtlhfimbpjdfdgadGreatDoorLY6
import Derived.Test.YtlhfimbpjdfdgadGreatDoorLAr
namespace Go.G
open Go Go.J
set_option linter.unusedSimpArgs false
set_option linter.unusedVariables false
theorem flat_len {l : List TAct} (hs : ∀ x ∈ l, ActSz x) : (l.flatMap lineA).length ≤ 250 * l.length := by
 induction l with
 | nil => simp
 | cons x l ih =>
  have h1 := ih fun y hy => hs y (List.mem_cons_of_mem _ hy)
  have h2 := lineA_len (hs x (List.mem_cons_self ..))
  simp only [List.flatMap_cons, List.length_append, List.length_cons]
  omega
theorem Text_spec {l : List TAct} (hok : ActsOK l) (hl : l.length ≤ 700) : m_club_Text l = some (toB (l.flatMap lineA), 0) := by
 have h : ∀ x ∈ l, ActSz x := fun x hx => actSz (hok.ok x hx)
 unfold m_club_Text
 rw [CheckActs_spec, (actsF_zero l).2 hok, Option.bind_some, show ((0 : Int) != 0) = false from rfl, ifB_false]
 obtain ⟨u, g1, g2⟩ := rangeM_invx m_club_Text_l1 l (fun i u => u = toB ((l.take i).flatMap lineA)) (by
  rintro i x u hx rfl
  have hi := (List.getElem?_eq_some_iff.1 hx).1
  have hfl := flat_len (l := l.take i) (fun y hy => h y (List.take_subset _ _ hy))
  rw [List.length_take] at hfl
  have hz := h x (List.mem_of_getElem? hx)
  have := lineA_len hz
  unfold m_club_Text_l1
  rw [actText_spec hz, Option.bind_some, write_is (by omega), Option.bind_some]
  refine ⟨_, rfl, ?_⟩
  rw [List.take_add_one, hx]
  simp [List.flatMap_append]) ByteArray.empty rfl
 have := flat_len h
 rw [g1, Option.bind_some, fin_brk, g2, List.take_length, toB_size, decide_eq_false (by omega)]; rfl
def actsStep (_ : Nat) (l : List TAct) (x : BL) : Option (List TAct) := (actL x).map fun y => l ++ [y]
def actsI (i : Nat) (l : List TAct) : Prop := l.length ≤ i
theorem actsStep_I : ∀ i s x z, actsI i s → actsStep i s x = some z → actsI (i + 1) z := by
 intro i s x z h1 h2
 unfold actsStep at h2
 obtain ⟨y, -, rfl⟩ := Option.map_eq_some_iff.1 h2
 unfold actsI at *
 simp; omega
noncomputable def readA (t : ByteArray) : (List TAct) × Int × Int :=
 if t.size > 200000 then ([], 0, 2)
 else match rdL actsStep 0 (linesOf t.data.toList) [] with
  | .inl k => ([], (k : Int), 9)
  | .inr s => if leftOf t.data.toList = [] then (if actsF s ≠ 0 then ([], 0, actsF s) else (s, 0, 0)) else ([], ((linesOf t.data.toList).length : Int), 9)
theorem step_spec (Ls : List ByteArray) (ended : Bool) (i : Nat) (s : List TAct) (x : BL) (hs : s.length ≤ 400000) (hx : x.length ≤ 200000) (hLs : Ls.length ≤ 400000) (he : ended = false → i + 1 < Ls.length) :
  m_club_Read_l1 (Ls, ended) i (toB x) s = some (match actsStep i s x with | some z => .nxt z | none => .ret ([], (i : Int), 9)) := by
 obtain ⟨y, h1, h2⟩ := readAct_spec x hx
 unfold m_club_Read_l1 actsStep
 rw [h1, Option.bind_some]
 cases hp : actL x with
 | none => rfl
 | some z =>
  rw [h2 z hp]
  simp only [Option.isSome_some, Bool.not_true, ifB_false, Option.map_some]
  have app : appM 112 s [z] = some (s ++ [z]) := appM_of (by simp; omega) (by omega)
  cases ended with
  | true => simp only [Bool.not_true, ifB_false, Option.bind_some, fin_inl, app]
  | false =>
   have hne : ((i : Int) == (w64 ((Ls.length : Int) - 1))) = false := by
    rw [w64_id (by omega)]
    have := he rfl
    rw [beq_eq_false_iff_ne]; omega
   simp only [Bool.not_false, ifB_true, Option.bind_some, fin_inl, hne, ifB_false, app]
theorem Read_spec (t : ByteArray) : m_club_Read t = some (readA t) := by
 unfold m_club_Read readA
 by_cases hbig : t.size > 200000
 ·rw [decide_eq_true (by omega), if_pos hbig]; rfl
 rw [decide_eq_false (by omega), if_neg hbig, ifB_false, kitLines_spec t (by omega)]
 have hsz : t.data.toList.length ≤ 200000 := by rw [← size_data]; omega
 have hP := lines_len t.data.toList
 have hx : ∀ x ∈ linesOf t.data.toList, x.length ≤ 200000 := fun x hx => Nat.le_trans (lines_size hx) hsz
 have hleft : (leftOf t.data.toList).length ≤ 200000 := Nat.le_trans (left_size _) hsz
 have fin : ∀ s : List TAct, ((m_club_CheckActs s).bind fun y23 => ifB (y23 != 0) (some (([] : List TAct), (0 : Int), y23)) (some (s, 0, 0))) = some (if actsF s ≠ 0 then ([], 0, actsF s) else (s, 0, 0)) := fun s => by
  rw [CheckActs_spec, Option.bind_some]
  by_cases hc : actsF s = 0
  ·rw [hc, if_neg (by simp)]; rfl
  ·rw [show (actsF s != 0) = true by simpa using hc, if_pos hc]; rfl
 by_cases h0 : t.data.toList = []
 ·rw [if_pos h0, Option.bind_some]
  simp only [rangeM_nil, Option.bind_some, fin_brk]
  rw [fin, h0]; rfl
 rw [if_neg h0]
 by_cases hl : leftOf t.data.toList = []
 ·rw [if_pos hl]
  have hr := progLoop (m_club_Read_l1 ((linesOf t.data.toList).map toB, true)) actsStep actsI (fun k => ([], (k : Int), 9)) (linesOf t.data.toList).length actsStep_I (fun i s x hI hx hi => by rw [step_spec ((linesOf t.data.toList).map toB) true i s x (by unfold actsI at hI; omega) hx (by rw [List.length_map]; omega) (fun h => by cases h)]; cases actsStep i s x <;> rfl) [] (linesOf t.data.toList) 0 [] hx (by simp [actsI]) (by omega)
  rw [List.append_nil] at hr
  simp only [Option.bind_some]
  rw [hr]
  cases hrd : rdL actsStep 0 (linesOf t.data.toList) [] with
  | inl k => rfl
  | inr s =>
   simp only [rangeM_nil, Option.bind_some, fin_brk]
   rw [fin, if_pos hl]
 ·rw [if_neg hl]
  simp only [Option.bind_some]
  have hr := progLoop (m_club_Read_l1 ((linesOf t.data.toList ++ [leftOf t.data.toList]).map toB, false)) actsStep actsI (fun k => ([], (k : Int), 9)) (linesOf t.data.toList).length actsStep_I (fun i s x hI hx hi => by rw [step_spec ((linesOf t.data.toList ++ [leftOf t.data.toList]).map toB) false i s x (by unfold actsI at hI; omega) hx (by simp; omega) (fun _ => by simp; omega)]; cases actsStep i s x <;> rfl) [toB (leftOf t.data.toList)] (linesOf t.data.toList) 0 [] hx (by simp [actsI]) (by omega)
  rw [show (linesOf t.data.toList ++ [leftOf t.data.toList]).map toB = (linesOf t.data.toList).map toB ++ [toB (leftOf t.data.toList)] by simp] at hr ⊢
  rw [hr]
  cases hrd : rdL actsStep 0 (linesOf t.data.toList) [] with
  | inl k => rfl
  | inr s =>
   have hsl : s.length ≤ (linesOf t.data.toList).length := by
    have := rdL_inv actsStep actsI actsStep_I _ _ _ _ (by simp [actsI]) hrd
    unfold actsI at this
    omega
   simp only [rangeM_cons, rangeM_nil, Nat.zero_add]
   have hlast : m_club_Read_l1 ((linesOf t.data.toList).map toB ++ [toB (leftOf t.data.toList)], false) (linesOf t.data.toList).length (toB (leftOf t.data.toList)) s = some (.ret ([], ((linesOf t.data.toList).length : Int), 9)) := by
    obtain ⟨y, h1, h2⟩ := readAct_spec (leftOf t.data.toList) hleft
    unfold m_club_Read_l1
    rw [h1, Option.bind_some]
    have hq : (((linesOf t.data.toList).length : Int) == (w64 ((((linesOf t.data.toList).map toB ++ [toB (leftOf t.data.toList)]).length : Int) - 1))) = true := by
     rw [w64_id (by simp; omega)]
     simp
    cases (actL (leftOf t.data.toList)).isSome with
    | false => simp only [Bool.not_false, ifB_true, Option.bind_some, fin_inl]
    | true => simp only [Bool.not_true, Bool.not_false, ifB_false, ifB_true, Option.bind_some, fin_inl, hq]
   rw [hlast, if_neg hl]; rfl
theorem EqualA (a : List TAct) : m_slices_Equal_api_Act_api_Act a a = some true := by
 unfold m_slices_Equal_api_Act_api_Act
 rw [show ((a.length : Int) != (a.length : Int)) = false by simp, ifB_false]
 obtain ⟨s, h1, -⟩ := rangeM_invx (m_slices_Equal_api_Act_api_Act_l1 a) a (fun _ _ => True) (by
  intro i x s hx _
  unfold m_slices_Equal_api_Act_api_Act_l1
  rw [getI_of rfl hx, Option.bind_some, show (!(decide (x = x))) = false by simp, ifB_false]
  exact ⟨_, rfl, trivial⟩) () trivial
 rw [h1]; rfl
end Go.G
