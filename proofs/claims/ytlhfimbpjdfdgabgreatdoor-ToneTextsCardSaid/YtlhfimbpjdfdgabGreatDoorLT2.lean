/- LT2: words, lines, texts cut and joined: what the models of the library and of both sides give. In plain Lean, no program in sight. -/
import Derived.Test.YtlhfimbpjdfdgabGreatDoorLT0
import Derived.Test.YtlhfimbpjdfdgabGreatDoorLT1
import Derived.Lib.ItoaLen
namespace Go.G
open Go Go.J
set_option linter.unusedSimpArgs false
set_option linter.unusedVariables false
theorem ba_ext {a b : ByteArray} (h : a.data.toList = b.data.toList) : a = b := by rw [← toB_data a, ← toB_data b, h]
theorem ba_tl (a b : ByteArray) : (a.toList == b.toList) = decide (a.data.toList = b.data.toList) := by
  rw [ByteArray.toList_eq, ByteArray.toList_eq, Bool.eq_iff_iff]; simp
theorem ba_nil (a : ByteArray) : (a.toList == ByteArray.empty.toList) = decide (a.data.toList = []) := ba_tl a ByteArray.empty
theorem app_data (a b : ByteArray) : (a ++ b).data.toList = a.data.toList ++ b.data.toList := by simp
theorem ext_data (s : ByteArray) (a b : Nat) : (s.extract a b).data.toList = (s.data.toList.drop a).take (b - a) := by
  rw [ByteArray.data_extract, Array.toList_extract]
theorem strS_eq {s : ByteArray} {a b : Nat} (h : a ≤ b) (hb : b ≤ s.data.toList.length) : strS s (a : Int) (b : Int) = some (toB ((s.data.toList.drop a).take (b - a))) := by
  unfold strS
  rw [if_pos ⟨by omega, by omega, by rw [size_data]; omega⟩]
  congr 1
  refine ba_ext ?_
  rw [Int.toNat_natCast, Int.toNat_natCast, ext_data]; rfl
theorem strS_from {s : ByteArray} {a b : BL} (h : s.data.toList = a ++ b) : strS s (a.length : Int) (s.size : Int) = some (toB b) := by
  have hl : s.size = s.data.toList.length := size_data s
  rw [hl, strS_eq (by rw [h]; simp) (Nat.le_refl _), h]
  congr 2
  simp
theorem strS_to {s : ByteArray} {a b : BL} (h : s.data.toList = a ++ b) : strS s 0 (a.length : Int) = some (toB a) := by
  have := strS_eq (s := s) (a := 0) (b := a.length) (Nat.zero_le _) (by rw [h]; simp)
  rw [show ((0 : Nat) : Int) = 0 from rfl] at this
  rw [this, h]
  congr 2
  simp
theorem catM_of {a b : ByteArray} (h : a.size + b.size ≤ 9223372036854775807) : catM a b = some (a ++ b) := by unfold catM; rw [if_pos h]
theorem ba_app (a b : ByteArray) : (a ++ b).size = a.size + b.size := by simp
abbrev oneB (c : UInt8) : ByteArray := ByteArray.mk [c].toArray
theorem Split_spec (c : UInt8) (s : ByteArray) (h : s.size < 4294967281) : m_strings_Split s (oneB c) = some ((spl c s.data.toList).map toB) := by
  unfold m_strings_Split
  rw [if_pos ⟨h, by show 1 ≤ (ByteArray.mk [c].toArray).size; exact Nat.le_refl _⟩]
  exact congrArg some (splitB_spl' c s)
theorem join_data (c : UInt8) (L : List ByteArray) : Lib.join (L.map (·.data.toList)) (oneB c).data.toList = jn c (L.map (·.data.toList)) := jn_join c _
theorem jn_len (c : UInt8) : ∀ L : List BL, (jn c L).length ≤ (L.map (·.length + 1)).sum
  | [] => by simp [jn]
  | [x] => by simp [jn]
  | x :: y :: r => by
    have := jn_len c (y :: r)
    simp only [jn, List.length_append, List.length_cons, List.map_cons, List.sum_cons] at this ⊢
    omega
theorem Join_spec (c : UInt8) (L : List ByteArray) (h : L.length ≤ 1000000) (hl : (jn c (L.map (·.data.toList))).length ≤ 1000000000) : m_strings_Join L (oneB c) = some (toB (jn c (L.map (·.data.toList)))) := by
  unfold m_strings_Join
  rw [join_data, if_pos ⟨by omega, by omega⟩]; rfl
/-! cut once -/
theorem indexByte_at (c : UInt8) : ∀ (a r : BL), c ∉ a → Lib.indexByte (a ++ c :: r) c = (a.length : Int)
  | [], r, _ => by simp [Lib.indexByte]
  | x :: a, r, h => by
    have hx : (x == c) = false := by
      rw [beq_eq_false_iff_ne]
      exact fun e => h (by rw [e]; exact List.mem_cons_self ..)
    have ih := indexByte_at c a r fun hm => h (List.mem_cons_of_mem _ hm)
    rw [List.cons_append, Lib.indexByte, hx, ih]
    simp
theorem indexByte_no (c : UInt8) (a : BL) (h : c ∉ a) : Lib.indexByte a c = -1 := by
  have h1 := (indexByte_neg a c).2 h
  have h2 := Lib.indexByte_ge a c
  omega
theorem Index_spec (c : UInt8) (s : ByteArray) : m_stringslite_Index s (oneB c) = some (Lib.indexByte s.data.toList c) := by
  unfold m_stringslite_Index
  rw [show (((oneB c).size : Nat) : Int) = 1 from rfl]
  by_cases he : (oneB c).toList == s.toList
  · have hs : s.data.toList = [c] := by
      have := eq_of_beq he
      rw [ByteArray.toList_eq, ByteArray.toList_eq] at this
      exact this.symm
    rw [he, hs]
    simp [Lib.indexByte]
  · rw [Bool.eq_false_iff.2 he]
    have h2 : strI (oneB c) 0 = some (c.toNat : Int) := by
      have := strI_nat (oneB c) 0
      simpa using this
    show ((strI (oneB c) 0).bind fun c4 => (m_stringslite_IndexByte s c4).bind fun y5 => some y5) = _
    rw [h2, Option.bind_some]
    unfold m_stringslite_IndexByte
    rw [u8_back]; rfl
theorem Cut_hit {c : UInt8} {s : ByteArray} {a r : BL} (h : s.data.toList = a ++ c :: r) (hc : c ∉ a) (hs : s.size ≤ 4000000000) : m_strings_Cut s (oneB c) = some (toB a, toB r, true) := by
  unfold m_strings_Cut m_stringslite_Cut
  rw [Index_spec, h, indexByte_at c a r hc, Option.bind_some, decide_eq_true (by omega), ifB_true, show (((oneB c).size : Nat) : Int) = 1 from rfl]
  have hl : s.size = a.length + (r.length + 1) := by rw [size_data, h]; simp
  rw [w64_id (by omega), strS_to h]
  have h2 : s.data.toList = (a ++ [c]) ++ r := by rw [h]; simp
  have := strS_from h2
  rw [show (((a ++ [c]).length : Nat) : Int) = (a.length : Int) + 1 by simp] at this
  rw [this]; rfl
theorem Cut_miss {c : UInt8} {s : ByteArray} (hc : c ∉ s.data.toList) : m_strings_Cut s (oneB c) = some (s, ByteArray.empty, false) := by
  unfold m_strings_Cut m_stringslite_Cut
  rw [Index_spec, indexByte_no c _ hc]; rfl
theorem HasSuffix_spec (c : UInt8) (s : ByteArray) (hs : s.size ≤ 4000000000) : m_stringslite_HasSuffix s (oneB c) = some (decide (s.data.toList.getLast? = some c)) := by
  unfold m_stringslite_HasSuffix
  rw [show (((oneB c).size : Nat) : Int) = 1 from rfl]
  by_cases h0 : s.data.toList = []
  · have : s.size = 0 := by rw [size_data, h0]; rfl
    rw [this, h0]; rfl
  · have hdl := List.dropLast_concat_getLast h0
    have hl : s.size = s.data.toList.dropLast.length + 1 := by rw [size_data]; conv => lhs; rw [← hdl]
                                                               simp
    have h1 := strS_from (s := s) (a := s.data.toList.dropLast) (b := [s.data.toList.getLast h0]) hdl.symm
    rw [decide_eq_true (by omega), ifB_true, w64_id (by omega), show (s.size : Int) - 1 = (s.data.toList.dropLast.length : Int) by omega, h1, Option.bind_some, List.getLast?_eq_some_getLast h0, ba_tl]
    congr 1
    rw [data_toB, Bool.eq_iff_iff]
    simp
theorem CutSuffix_hit {c : UInt8} {s : ByteArray} {a : BL} (h : s.data.toList = a ++ [c]) (hs : s.size ≤ 4000000000) : m_strings_CutSuffix s (oneB c) = some (toB a, true) := by
  unfold m_strings_CutSuffix m_stringslite_CutSuffix
  have hl : s.size = a.length + 1 := by rw [size_data, h]; simp
  rw [HasSuffix_spec c s hs, h, decide_eq_true (by simp), Option.bind_some, Bool.not_true, ifB_false, show (((oneB c).size : Nat) : Int) = 1 from rfl, w64_id (by omega), show (s.size : Int) - 1 = (a.length : Int) by omega, strS_to h]; rfl
theorem CutSuffix_miss {c : UInt8} {s : ByteArray} (h : s.data.toList.getLast? ≠ some c) (hs : s.size ≤ 4000000000) : m_strings_CutSuffix s (oneB c) = some (s, false) := by
  unfold m_strings_CutSuffix m_stringslite_CutSuffix
  rw [HasSuffix_spec c s hs, decide_eq_false h]; rfl
/-! words -/
def hasB (s : ByteArray) (a : List ByteArray) : Bool := a.any fun x => decide (x = s)
theorem hasB_iff {s : ByteArray} {a : List ByteArray} : hasB s a = true ↔ s ∈ a := by
  unfold hasB
  rw [List.any_eq_true]
  exact ⟨fun ⟨x, hx, e⟩ => by rw [← of_decide_eq_true e]; exact hx, fun h => ⟨s, h, decide_eq_true rfl⟩⟩
theorem ContainsS_dec (a : List ByteArray) (s : ByteArray) : m_slices_Contains_string_string a s = some (hasB s a) := by
  obtain ⟨n, h1, h2⟩ := ixM_spec (fun x : ByteArray => some (s.toList == x.toList)) (fun x => s.toList == x.toList) a (fun _ _ => rfl)
  have hi : m_slices_Index_string_string a s = some n := h1
  unfold m_slices_Contains_string_string
  rw [hi, Option.bind_some]
  congr 1
  rw [Bool.eq_iff_iff, decide_eq_true_eq, hasB_iff]
  rcases h2 with ⟨rfl, g⟩ | ⟨k, rfl, hk, -, y, hy, hyd⟩
  · refine ⟨fun h => by omega, fun h => ?_⟩
    have := g s h
    simp at this
  · refine ⟨fun _ => ?_, fun _ => by omega⟩
    have : s = y := ba_toList_inj.1 (by simpa using hyd)
    rw [this]; exact List.mem_of_getElem? hy
theorem mem_toB_nil (L : List BL) : (ByteArray.empty ∈ L.map toB) ↔ [] ∈ L := by
  refine ⟨fun h => ?_, fun h => List.mem_map.2 ⟨[], h, rfl⟩⟩
  obtain ⟨x, hx, e⟩ := List.mem_map.1 h
  have : x = [] := toB_inj (b := []) (e.trans rfl)
  rw [← this]; exact hx
theorem kitWords_loop : ∀ (L : List BL) (i : Nat), rangeM m_kit_Words_l1 i (L.map toB) () = some (if [] ∈ L then .ret ([], false) else .brk ()) := by
  intro L
  induction L with
  | nil => intro i; rfl
  | cons x t ih =>
    intro i
    rw [List.map_cons, rangeM_cons]
    unfold m_kit_Words_l1
    rw [ba_nil, data_toB]
    by_cases h : x = []
    · rw [decide_eq_true h, if_pos (by rw [h]; exact List.mem_cons_self ..)]; rfl
    · rw [decide_eq_false h, ifB_false, Option.bind_some, run_nxt]
      have := ih (i + 1)
      unfold m_kit_Words_l1 at this
      rw [this]
      congr 1
      have : ([] ∈ x :: t) ↔ [] ∈ t := by simp [Ne.symm h]
      simp only [this]
theorem kitWords_spec (s : ByteArray) (hs : s.size < 4294967281) : m_kit_Words s = some (if [] ∈ spl 32 s.data.toList then ([], false) else ((spl 32 s.data.toList).map toB, true)) := by
  unfold m_kit_Words
  rw [show (ByteArray.mk [32].toArray) = oneB 32 from rfl, Split_spec 32 s hs, Option.bind_some, kitWords_loop]
  split <;> rfl
theorem refWords_spec (s : ByteArray) (hs : s.size < 4294967281) : m_gleeref2_Words s = some ((spl 32 s.data.toList).map toB, !decide ([] ∈ spl 32 s.data.toList)) := by
  unfold m_gleeref2_Words
  rw [show (ByteArray.mk [32].toArray) = oneB 32 from rfl, Split_spec 32 s hs, Option.bind_some, ContainsS_dec, Option.bind_some]
  congr 3
  rw [Bool.eq_iff_iff, decide_eq_true_eq, hasB_iff]
  exact mem_toB_nil _
/-! lines -/
theorem spl_last_ne (c : UInt8) (s : BL) (h0 : s ≠ []) (h : s.getLast? ≠ some c) : ∃ P l, spl c s = P ++ [l] ∧ l ≠ [] := by
  induction s with
  | nil => exact (h0 rfl).elim
  | cons b t ih =>
    cases t with
    | nil =>
      have hb : b ≠ c := fun e => h (by rw [e]; rfl)
      exact ⟨[], [b], by simp [spl, hb], by simp⟩
    | cons d u =>
      obtain ⟨P, l, h1, h2⟩ := ih (by simp) (by simpa using h)
      rw [spl, h1]
      by_cases hb : b = c
      · rw [if_pos hb]; exact ⟨[] :: P, l, rfl, h2⟩
      · rw [if_neg hb]
        cases P with
        | nil => exact ⟨[], b :: l, rfl, by simp⟩
        | cons q Q => exact ⟨(b :: q) :: Q, l, rfl, h2⟩
/-- what is read line by line -/
def linesOf (s : BL) : List BL := (spl 10 s).dropLast
def leftOf (s : BL) : BL := (spl 10 s).getLast (spl_ne 10 s)
theorem lines_split (s : BL) : spl 10 s = linesOf s ++ [leftOf s] := (List.dropLast_concat_getLast (spl_ne 10 s)).symm
theorem linesOf_nl {s : BL} {x : BL} (h : x ∈ linesOf s) : (10 : UInt8) ∉ x := spl_mem 10 s x (List.dropLast_subset _ h)
theorem leftOf_nl (s : BL) : (10 : UInt8) ∉ leftOf s := spl_mem 10 s _ (List.getLast_mem _)
theorem kitLines_spec (t : ByteArray) (ht : t.size ≤ 4000000000) : m_kit_Lines t = some (if t.data.toList = [] then ([], true) else if leftOf t.data.toList = [] then ((linesOf t.data.toList).map toB, true) else ((linesOf t.data.toList ++ [leftOf t.data.toList]).map toB, false)) := by
  unfold m_kit_Lines
  rw [ba_nil]
  by_cases h0 : t.data.toList = []
  · rw [decide_eq_true h0, if_pos h0]; rfl
  · rw [decide_eq_false h0, ifB_false, if_neg h0, show (ByteArray.mk [10].toArray) = oneB 10 from rfl]
    by_cases hl : t.data.toList.getLast? = some 10
    · obtain ⟨a, ha⟩ : ∃ a, t.data.toList = a ++ [10] := by
        refine ⟨t.data.toList.dropLast, ?_⟩
        have := List.dropLast_concat_getLast h0
        rw [List.getLast?_eq_some_getLast h0] at hl
        rw [← this]
        simp [Option.some.inj hl]
      have hsz : (toB a).size ≤ t.size := by rw [toB_size, size_data, ha]; simp
      have hs : spl 10 t.data.toList = spl 10 a ++ [[]] := by rw [ha]; exact spl_end 10 a
      have e1 : linesOf t.data.toList = spl 10 a := by unfold linesOf; rw [hs]; simp
      have e2 : leftOf t.data.toList = [] := by unfold leftOf; simp only [hs]; simp
      have hsz' : (toB a).size < 4294967281 := by omega
      rw [CutSuffix_hit ha ht, Option.bind_some, Split_spec 10 _ hsz', if_pos e2, e1, data_toB]; rfl
    · obtain ⟨P, l, h1, h2⟩ := spl_last_ne 10 t.data.toList h0 hl
      have e2 : leftOf t.data.toList ≠ [] := by unfold leftOf; simp only [h1]; simpa using h2
      have ht' : t.size < 4294967281 := by omega
      rw [CutSuffix_miss hl ht, Option.bind_some, Split_spec 10 _ ht', if_neg e2, ← lines_split]; rfl
/-- the text that is left while the reference reads -/
theorem text_of (s : BL) : jn 10 (linesOf s ++ [leftOf s]) = s := by rw [← lines_split, jn_spl]
theorem jn_line (x : BL) (P : List BL) (l : BL) : jn 10 (x :: (P ++ [l])) = x ++ 10 :: jn 10 (P ++ [l]) := by
  cases P <;> rfl
/-- .. with what is left when a line is not right -/
def rdL {σ : Type} (F : Nat → σ → BL → Option σ) : Nat → List BL → σ → Nat ⊕ σ
  | _, [], s => .inr s
  | i, x :: t, s => match F i s x with
    | none => .inl i
    | some s' => rdL F (i + 1) t s'
/-! drawn texts -/
theorem encode_size (r : Int) : (Utf8.encode r).size ≤ 4 := by
  unfold Utf8.encode
  dsimp only
  repeat' split
  all_goals exact Nat.le_of_ble_eq_true rfl
theorem strS_of {s : ByteArray} {a b : Int} (h : 0 ≤ a ∧ a ≤ b ∧ b ≤ s.size) : ∃ d, strS s a b = some d ∧ d.size ≤ s.size := by
  unfold strS
  rw [if_pos h]
  exact ⟨_, rfl, by rw [ByteArray.size_extract]; omega⟩
end Go.G
