/- LC1: keys, and the faults of programs, in plain Lean. No program in sight. -/
import Derived.Test.YtlhfimbpjdfdgabGreatDoorLGen
namespace Go.G
open Go Go.J
/-! ### loops that look for something -/
theorem rangeM_any {α ρ : Type} (step : Nat → α → Unit → Option (Flow Unit ρ)) (v : ρ) (p : Nat → α → Bool) (xs : List α) (k : Nat)
    (h : ∀ i x, xs[i]? = some x → step (k + i) x () = some (if p (k + i) x then .ret v else .nxt ())) :
    rangeM step k xs () = some (if (xs.zipIdx k).any (fun q => p q.2 q.1) then .ret v else .brk ()) := by
  induction xs generalizing k with
  | nil => rfl
  | cons x t ih =>
    have h0 := h 0 x rfl
    simp only [Nat.add_zero] at h0
    rw [rangeM_cons, h0]
    cases hp : p k x with
    | true => simp [hp]
    | false =>
      have := ih (k + 1) (fun i y hy => by
        have := h (i + 1) y (by simpa using hy)
        rw [show k + 1 + i = k + (i + 1) by omega]; exact this)
      rw [List.zipIdx_cons, List.any_cons]
      simp only [hp, Bool.false_or]
      exact this
theorem indexByte_neg (l : List UInt8) (b : UInt8) : (Lib.indexByte l b < 0) ↔ b ∉ l := by
  induction l with
  | nil => simp [Lib.indexByte]
  | cons x t ih =>
    unfold Lib.indexByte
    have hge := Lib.indexByte_ge t b
    by_cases h : x = b
    · subst h; simp
    · have hb : ¬ b = x := fun e => h e.symm
      have e1 : (x == b) = false := by simpa using h
      rw [e1]
      by_cases h2 : Lib.indexByte t b = -1
      · have : b ∉ t := ih.1 (by omega)
        simp [h2, this, hb]
      · have h3 : ¬ (b ∉ t) := fun e => by have := ih.2 e; omega
        have e2 : (Lib.indexByte t b == -1) = false := by simpa using h2
        rw [e2]
        simp only [Bool.false_eq_true, if_false, List.mem_cons, hb, false_or]
        exact ⟨fun h => by omega, fun h => absurd h h3⟩
theorem size_data (s : ByteArray) : s.size = s.data.toList.length := by simp
theorem strI_nat (s : ByteArray) (i : Nat) : strI s (i : Int) = (s.data.toList[i]?).map fun b => (b.toNat : Int) := by
  unfold strI
  rw [if_pos (by omega)]
  simp only [Int.toNat_natCast]
  congr 1
  by_cases h : i < s.size
  · rw [getElem?_pos s i h, List.getElem?_eq_getElem (by rw [← size_data]; exact h)]
    simp [ByteArray.getElem_eq_getElem_data]
  · rw [getElem?_neg s i h, List.getElem?_eq_none (by rw [← size_data]; omega)]
theorem u8_back (b : UInt8) : ((b.toNat : Int)).toNat.toUInt8 = b := by simp
/-- 'only' -/
theorem only_spec (s set : ByteArray) (hs : (s.size : Int) ≤ 9223372036854775807) : m_gleeref2_only s set = some (s.data.toList.all fun b => decide (b ∈ set.data.toList)) := by
  unfold m_gleeref2_only
  rw [rangeI_of hs]
  have hlen : (List.range ((s.size : Int)).toNat) = List.range s.data.toList.length := by simp
  rw [hlen]
  show (rangeM _ 0 _ ()).bind _ = _
  rw [rangeM_any (m_gleeref2_only_l1 s set) false (fun i _ => match s.data.toList[i]? with | some b => !decide (b ∈ set.data.toList) | none => false)]
  · have : ((List.range s.data.toList.length).zipIdx 0).any (fun q => match s.data.toList[q.2]? with | some b => !decide (b ∈ set.data.toList) | none => false) = !(s.data.toList.all fun b => decide (b ∈ set.data.toList)) := by
      rw [Bool.eq_iff_iff]
      simp only [List.any_eq_true, Bool.not_eq_true', List.all_eq_false, decide_eq_true_eq]
      constructor
      · rintro ⟨⟨a, i⟩, hm, h⟩
        simp only at h
        cases hb : s.data.toList[i]? with
        | none => rw [hb] at h; cases h
        | some b => rw [hb] at h; exact ⟨b, List.mem_of_getElem? hb, by simpa using h⟩
      · rintro ⟨b, hb, h⟩
        obtain ⟨i, hi, rfl⟩ := List.mem_iff_getElem.1 hb
        refine ⟨(i, i), ?_, ?_⟩
        · rw [List.mem_zipIdx_iff_getElem?]
          simp only
          rw [List.getElem?_range hi]
        · simp only [List.getElem?_eq_getElem hi]
          simpa using h
    rw [this]
    cases s.data.toList.all fun b => decide (b ∈ set.data.toList) <;> rfl
  · intro i x hx
    have hxi : i < s.data.toList.length := by
      have := (List.getElem?_eq_some_iff.1 hx).1
      simpa using this
    unfold m_gleeref2_only_l1
    simp only [Nat.zero_add]
    rw [strI_nat, List.getElem?_eq_getElem hxi]
    unfold m_strings_IndexByte
    simp only [Option.map_some, Option.bind_some, u8_back]
    by_cases h : s.data.toList[i] ∈ set.data.toList
    · rw [decide_eq_false (fun e => (indexByte_neg _ _).1 e h)]; simp; simpa using h
    · rw [decide_eq_true ((indexByte_neg _ _).2 h)]; simp; simpa using h
theorem trimS_nil (l cs : List UInt8) : (Lib.trimS l cs = []) ↔ l.all (fun b => decide (b ∈ cs)) = true := by
  unfold Lib.trimS Lib.trimLeftS Lib.trimRightS
  have hdw : ∀ m : List UInt8, m.dropWhile (cs.contains ·) = [] ↔ ∀ b ∈ m, b ∈ cs := by
    intro m
    induction m with
    | nil => simp
    | cons x t ih =>
      by_cases hx : x ∈ cs
      · have hc : cs.contains x = true := by simpa using hx
        rw [List.dropWhile_cons, if_pos hc, ih]
        simp [hx]
      · simp [hx]
  rw [hdw, List.all_eq_true]
  constructor
  · intro h b hb
    by_cases hc : b ∈ cs
    · simpa using hc
    · exfalso
      -- the bytes that are not in the set are not cut off
      have key : ∀ m : List UInt8, b ∈ m → b ∈ m.dropWhile (cs.contains ·) := by
        intro m
        induction m with
        | nil => simp
        | cons x t ih =>
          intro hm
          by_cases hx : x ∈ cs
          · rcases List.mem_cons.1 hm with e | e
            · subst e; exact absurd hx hc
            · simpa [List.dropWhile_cons, hx] using ih e
          · simpa [List.dropWhile_cons, hx] using hm
      exact hc (h b (List.mem_reverse.2 (key _ (List.mem_reverse.2 hb))))
  · intro h b hb
    have := (List.dropWhile_sublist _).subset (List.mem_reverse.1 hb)
    simpa using h b (List.mem_reverse.1 this)
/-! ### keys -/
theorem ba_empty (s : ByteArray) : (s.toList == ByteArray.empty.toList) = decide (s.size = 0) := by
  have e0 : ByteArray.empty.toList = [] := by rw [ByteArray.toList_eq]; rfl
  rw [ByteArray.toList_eq, e0, size_data]
  cases s.data.toList with
  | nil => rfl
  | cons x t => simp
def smallB : ByteArray := ByteArray.mk [97, 98, 99, 100, 101, 102, 103, 104, 105, 106, 107, 108, 109, 110, 111, 112, 113, 114, 115, 116, 117, 118, 119, 120, 121, 122].toArray
def keyB : ByteArray := ByteArray.mk [97, 98, 99, 100, 101, 102, 103, 104, 105, 106, 107, 108, 109, 110, 111, 112, 113, 114, 115, 116, 117, 118, 119, 120, 121, 122, 48, 49, 50, 51, 52, 53, 54, 55, 56, 57, 45, 95].toArray
def isKey (s : ByteArray) : Bool := decide (1 ≤ s.size ∧ s.size ≤ 40) && (s.data.toList.take 1).all (fun b => decide (b ∈ smallB.data.toList)) && s.data.toList.all (fun b => decide (b ∈ keyB.data.toList))
end Go.G
