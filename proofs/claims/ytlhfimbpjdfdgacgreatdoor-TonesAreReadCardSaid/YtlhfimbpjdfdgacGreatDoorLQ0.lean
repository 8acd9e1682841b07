/- Plain laws of the models; no condition beyond what each theorem says. -/
import Derived.Test.YtlhfimbpjdfdgacGreatDoorLG0
import Derived.Test.YtlhfimbpjdfdgacGreatDoorLS1
namespace Go.G
open Go Go.J
theorem rangeM_any {α ρ : Type} (step : Nat → α → Unit → Option (Flow Unit ρ)) (v : ρ) (p : Nat → α → Bool) (xs : List α) (k : Nat)
  (h : ∀ i x, xs[i]? = some x → step (k + i) x () = some (if p (k + i) x then .ret v else .nxt ())) :
  rangeM step k xs () = some (if (xs.zipIdx k).any (fun q => p q.2 q.1) then .ret v else .brk ()) := by
 induction xs generalizing k with
 | nil => rfl
 | cons x t ih =>
  have h0 := h 0 x rfl
  simp only [Nat.add_zero] at h0
  rw [rangeM_cons, h0]
  cases hp : p k x with
  | true => simp [hp]
  | false =>
   have := ih (k + 1) (fun i y hy => by
    have := h (i + 1) y (by simpa using hy)
    rw [show k + 1 + i = k + (i + 1) by omega]; exact this)
   rw [List.zipIdx_cons, List.any_cons]
   simp only [hp, Bool.false_or]
   exact this
theorem indexByte_neg (l : List UInt8) (b : UInt8) : (Lib.indexByte l b < 0) ↔ b ∉ l := by
 induction l with
 | nil => simp [Lib.indexByte]
 | cons x t ih =>
  unfold Lib.indexByte
  have hge := Lib.indexByte_ge t b
  by_cases h : x = b
  ·subst h; simp
  ·have hb : ¬ b = x := fun e => h e.symm
   have e1 : (x == b) = false := by simpa using h
   rw [e1]
   by_cases h2 : Lib.indexByte t b = -1
   ·have : b ∉ t := ih.1 (by omega)
    simp [h2, this, hb]
   ·have h3 : ¬ (b ∉ t) := fun e => by have := ih.2 e; omega
    have e2 : (Lib.indexByte t b == -1) = false := by simpa using h2
    rw [e2]
    simp only [Bool.false_eq_true, if_false, List.mem_cons, hb, false_or]
    exact ⟨fun h => by omega, fun h => absurd h h3⟩
theorem size_data (s : ByteArray) : s.size = s.data.toList.length := by simp
theorem strI_nat (s : ByteArray) (i : Nat) : strI s (i : Int) = (s.data.toList[i]?).map fun b => (b.toNat : Int) := by
 unfold strI
 rw [if_pos (by omega)]
 simp only [Int.toNat_natCast]
 congr 1
 by_cases h : i < s.size
 ·rw [getElem?_pos s i h, List.getElem?_eq_getElem (by rw [← size_data]; exact h)]
  simp [ByteArray.getElem_eq_getElem_data]
 ·rw [getElem?_neg s i h, List.getElem?_eq_none (by rw [← size_data]; omega)]
theorem u8_back (b : UInt8) : ((b.toNat : Int)).toNat.toUInt8 = b := by simp
theorem trimS_nil (l cs : List UInt8) : (Lib.trimS l cs = []) ↔ l.all (fun b => decide (b ∈ cs)) = true := by
 unfold Lib.trimS Lib.trimLeftS Lib.trimRightS
 have hdw : ∀ m : List UInt8, m.dropWhile (cs.contains ·) = [] ↔ ∀ b ∈ m, b ∈ cs := by
  intro m
  induction m with
  | nil => simp
  | cons x t ih =>
   by_cases hx : x ∈ cs
   ·have hc : cs.contains x = true := by simpa using hx
    rw [List.dropWhile_cons, if_pos hc, ih]
    simp [hx]
   ·simp [hx]
 rw [hdw, List.all_eq_true]
 constructor
 ·intro h b hb
  by_cases hc : b ∈ cs
  ·simpa using hc
  ·exfalso
   -- the bytes that are not in the set are not cut off
   have key : ∀ m : List UInt8, b ∈ m → b ∈ m.dropWhile (cs.contains ·) := by
    intro m
    induction m with
    | nil => simp
    | cons x t ih =>
     intro hm
     by_cases hx : x ∈ cs
     ·rcases List.mem_cons.1 hm with e | e
      ·subst e; exact absurd hx hc
      ·simpa [List.dropWhile_cons, hx] using ih e
     ·simpa [List.dropWhile_cons, hx] using hm
   exact hc (h b (List.mem_reverse.2 (key _ (List.mem_reverse.2 hb))))
 ·intro h b hb
  have := (List.dropWhile_sublist _).subset (List.mem_reverse.1 hb)
  simpa using h b (List.mem_reverse.1 this)
theorem ba_empty (s : ByteArray) : (s.toList == ByteArray.empty.toList) = decide (s.size = 0) := by
 have e0 : ByteArray.empty.toList = [] := by rw [ByteArray.toList_eq]; rfl
 rw [ByteArray.toList_eq, e0, size_data]
 cases s.data.toList with
 | nil => rfl
 | cons x t => simp
def smallB : ByteArray := ByteArray.mk [97, 98, 99, 100, 101, 102, 103, 104, 105, 106, 107, 108, 109, 110, 111, 112, 113, 114, 115, 116, 117, 118, 119, 120, 121, 122].toArray
def keyB : ByteArray := ByteArray.mk [97, 98, 99, 100, 101, 102, 103, 104, 105, 106, 107, 108, 109, 110, 111, 112, 113, 114, 115, 116, 117, 118, 119, 120, 121, 122, 48, 49, 50, 51, 52, 53, 54, 55, 56, 57, 45, 95].toArray
def isKey (s : ByteArray) : Bool := decide (1 ≤ s.size ∧ s.size ≤ 40) && (s.data.toList.take 1).all (fun b => decide (b ∈ smallB.data.toList)) && s.data.toList.all (fun b => decide (b ∈ keyB.data.toList))
theorem isKey_prog (s : ByteArray) : m_kit_IsKey s = some (isKey s) := by
 unfold m_kit_IsKey isKey
 rw [ba_empty]
 by_cases h0 : s.size = 0
 ·simp [h0]
 by_cases h1 : s.size ≤ 40
 ·have h1' : ((s.size : Int) ≤ 40) := by omega
  obtain ⟨b, t, hl⟩ : ∃ b t, s.data.toList = b :: t := by
   cases hl : s.data.toList with
   | nil => rw [size_data, hl] at h0; exact absurd rfl h0
   | cons b t => exact ⟨b, t, rfl⟩
  have e0 : strI s 0 = some (b.toNat : Int) := by
   have := strI_nat s 0
   rw [hl] at this
   simpa using this
  have e1 : m_strings_Trim s keyB = some ⟨(Lib.trimS s.data.toList keyB.data.toList).toArray⟩ := by
   unfold m_strings_Trim
   rw [if_pos ⟨by omega, by decide, by decide⟩]
  rw [decide_eq_false h0, Bool.not_false, ifB_true, decide_eq_true h1', ifB_true, e0, Option.bind_some]
  unfold m_strings_IndexByte
  rw [u8_back, Option.bind_some]
  have hd : decide (1 ≤ s.size ∧ s.size ≤ 40) = true := decide_eq_true ⟨by omega, h1⟩
  rw [hd, Bool.true_and]
  have ht : (s.data.toList.take 1).all (fun b => decide (b ∈ smallB.data.toList)) = decide (b ∈ smallB.data.toList) := by rw [hl]; simp
  rw [ht]
  by_cases hb : b ∈ smallB.data.toList
  ·have h2 : Lib.indexByte smallB.data.toList b ≥ 0 := by
    have := mt (indexByte_neg smallB.data.toList b).1 (fun h => h hb)
    omega
   have h2' : decide (Lib.indexByte (ByteArray.mk [97, 98, 99, 100, 101, 102, 103, 104, 105, 106, 107, 108, 109, 110, 111, 112, 113, 114, 115, 116, 117, 118, 119, 120, 121, 122].toArray).data.toList b ≥ 0) = true := decide_eq_true h2
   rw [h2', ifB_true, decide_eq_true hb, Bool.true_and]
   show (m_strings_Trim s keyB).bind _ = _
   rw [e1, Option.bind_some, ba_empty]
   congr 1
   rw [Bool.eq_iff_iff, decide_eq_true_eq, ← trimS_nil]
   rw [size_data, List.length_eq_zero_iff]
  ·have h2 : ¬ Lib.indexByte smallB.data.toList b ≥ 0 := by
    have := (indexByte_neg smallB.data.toList b).2 hb
    omega
   have h2' : decide (Lib.indexByte (ByteArray.mk [97, 98, 99, 100, 101, 102, 103, 104, 105, 106, 107, 108, 109, 110, 111, 112, 113, 114, 115, 116, 117, 118, 119, 120, 121, 122].toArray).data.toList b ≥ 0) = false := decide_eq_false h2
   rw [h2', ifB_false, decide_eq_false hb, Bool.false_and]
 ·have h1' : ¬ ((s.size : Int) ≤ 40) := by omega
  rw [decide_eq_false h0, Bool.not_false, ifB_true, decide_eq_false h1', ifB_false]
  rw [decide_eq_false (fun h => h1 h.2), Bool.false_and, Bool.false_and]
theorem Outside_spec (n lo hi : Int) : m_kit_Outside n lo hi = some (!decide (lo ≤ n ∧ n ≤ hi)) := by
 unfold m_kit_Outside
 by_cases h : n < lo
 ·have : ¬ (lo ≤ n ∧ n ≤ hi) := by omega
  rw [decide_eq_true h, decide_eq_false this]; rfl
 ·rw [decide_eq_false h, ifB_false]
  congr 1
  by_cases h2 : n ≤ hi
  ·rw [decide_eq_true (show lo ≤ n ∧ n ≤ hi from ⟨by omega, h2⟩), decide_eq_false (by omega)]; rfl
  ·rw [decide_eq_false (p := lo ≤ n ∧ n ≤ hi) (fun h => h2 h.2), decide_eq_true (show n > hi by omega)]; rfl
end Go.G
