/- LSl: slots: what is wrong with them, by both ways. In plain Lean, no program in sight. -/
import Derived.Test.YtkeieikpobfapabGreatDoorLKr
import Derived.Test.YtkeieikpobfapabGreatDoorLS1
import Derived.Test.YtkeieikpobfapabGreatDoorLG1
import Derived.Sort.Walk0
namespace Go.G
open Go Go.J
set_option linter.unusedSimpArgs false
set_option linter.unusedVariables false
theorem rangeM_index {α : Type} (step : Nat → α → Unit → Option (Flow Unit Int)) (p : α → Bool) (h : ∀ (i : Nat) x, step i x () = some (if p x = true then .ret (i : Int) else .nxt ())) : ∀ (xs : List α) (i : Nat), ∃ f, rangeM step i xs () = some f ∧ (xs.any p = true → ∃ j : Int, f = .ret j ∧ 0 ≤ j) ∧ (xs.any p = false → f = .brk ()) := by
 intro xs
 induction xs with
 | nil => intro i; exact ⟨.brk (), rfl, fun h => by simp at h, fun _ => rfl⟩
 | cons x t ih =>
  intro i
  rw [rangeM_cons, h]
  by_cases hp : p x = true
  ·rw [if_pos hp]
   exact ⟨.ret (i : Int), rfl, fun _ => ⟨i, rfl, by omega⟩, fun g => by simp [hp] at g⟩
  ·rw [if_neg hp]
   obtain ⟨f, h1, h2, h3⟩ := ih (i + 1)
   have e : (x :: t).any p = t.any p := by simp [hp]
   rw [e]
   exact ⟨f, h1, h2, h3⟩
theorem index_dec {α : Type} (step : Nat → α → Unit → Option (Flow Unit Int)) (p : α → Bool) (h : ∀ (i : Nat) x, step i x () = some (if p x = true then .ret (i : Int) else .nxt ())) (xs : List α) : ∃ j : Int, ((rangeM step 0 xs ()).bind fun f7 => Flow.fin f7 fun u4 => some (-1)) = some j ∧ decide (j ≥ 0) = xs.any p := by
 obtain ⟨f, h1, h2, h3⟩ := rangeM_index step p h xs 0
 rw [h1, Option.bind_some]
 cases hb : xs.any p with
 | true =>
  obtain ⟨j, rfl, hj⟩ := h2 hb
  exact ⟨j, rfl, decide_eq_true hj⟩
 | false =>
  rw [h3 hb]
  exact ⟨-1, rfl, rfl⟩
def sameB (a b : ByteArray) : Bool := a.toList == b.toList
theorem sameB_iff {a b : ByteArray} : sameB a b = true ↔ a = b := by unfold sameB; rw [beq_iff_eq]; exact ba_toList_inj
theorem Rising_ok (l : List ByteArray) (hl : l.length ≤ 1000000) : ∃ e, m_gleeref2_Rising l = some e ∧ (e = 0 → ∀ z ∈ l, isKey z = true) := by
 unfold m_gleeref2_Rising
 obtain ⟨f, h, hq⟩ := rangeM_stop (m_gleeref2_Rising_l1 l) l (fun n _ => ∀ (i : Nat) z, i < n → l[i]? = some z → isKey z = true) (fun f => match f with | .nxt _ => False | .brk _ => ∀ z ∈ l, isKey z = true | .ret e => e ≠ 0) (by
  intro i x s hx hI
  have hi := (List.getElem?_eq_some_iff.1 hx).1
  unfold m_gleeref2_Rising_l1
  rw [isKey_ref, Option.bind_some]
  cases hk : isKey x with
  | false => exact ⟨.ret 5, rfl, by simp, by simp, by simp⟩
  | true =>
   have hb : ∃ b, ((ifB (decide ((i : Int) > 0)) ((getI l (w64 ((i : Int) - 1))).bind fun e12 => some (.inl (Op.bytesLess x.toList e12.toList || x.toList == e12.toList))) (some (.inl false)) : Option (Bool ⊕ (Flow Unit Int)))) = some (.inl b) := by
    by_cases h0 : i = 0
    ·exact ⟨false, by rw [decide_eq_false (by omega)]; rfl⟩
    ·rw [decide_eq_true (by omega), ifB_true, w64_id (by omega), getI_of (n := i - 1) (by omega) (List.getElem?_eq_getElem (by omega)), Option.bind_some]
     exact ⟨_, rfl⟩
   obtain ⟨b, hb⟩ := hb
   rw [Bool.not_true, ifB_false, hb]
   cases b with
   | true => exact ⟨.ret 7, rfl, by simp, by simp, by simp⟩
   | false =>
    refine ⟨.nxt (), rfl, fun s' _ j z hj hz => ?_, by simp, by simp⟩
    by_cases hji : j < i
    ·exact hI j z hji hz
    ·have : j = i := by omega
     subst this
     rw [hx] at hz; cases hz
     exact hk) (fun s hI z hz => by
   obtain ⟨i, hi, he⟩ := List.getElem_of_mem hz
   exact hI i z hi (by rw [List.getElem?_eq_getElem hi, he])) () (fun i z hi => by omega)
 rw [h, Option.bind_some]
 cases f with
 | nxt s => exact hq.elim
 | brk s => exact ⟨0, rfl, fun _ => hq⟩
 | ret e => exact ⟨e, rfl, fun h => absurd h hq⟩
noncomputable def risF (l : List ByteArray) : Int := (m_gleeref2_Rising l).getD 0
theorem risF_zero {l : List ByteArray} (hl : l.length ≤ 1000000) (h : risF l = 0) : ∀ z ∈ l, isKey z = true := by
 obtain ⟨e, h1, h2⟩ := Rising_ok l hl
 unfold risF at h
 rw [h1] at h
 exact h2 h
def isT (w : TWindow) : Bool := decide (0 ≤ w.From ∧ w.From < w.To ∧ w.To ≤ 345686400000)
def ordS (p x : TSlot) : Bool := decide (x.Time.From < p.Time.From) || (decide (x.Time.From = p.Time.From) && !decide (bytesOf p.Key < bytesOf x.Key))
noncomputable def sF (s : List TSlot) (i : Nat) (x : TSlot) : Int :=
 bif !(isKey x.Key && isKey x.Room && isKey x.Piece) then 5 else bif (s.take i).any (fun o => sameB o.Key x.Key) then 6 else
 bif decide (x.Parts.length > 12) then 2 else bif risF x.Parts != 0 then risF x.Parts else bif !isT x.Time then 1 else
 bif (if i = 0 then false else match s[i - 1]? with | some p => ordS p x | none => false) then 7 else 0
theorem cI_s (a b : Int) : m_cmp_Compare_int a b = some (bif decide (a < b) then -1 else bif decide (a > b) then 1 else 0) := by
 unfold m_cmp_Compare_int m_cmp_isNaN_int
 simp only [Option.bind_some, bne_self_eq_false]
 by_cases h1 : a < b
 ·simp [h1]
 ·by_cases h2 : b < a
  ·simp [h1, h2]
  ·simp [h1, h2]
def out1S (e : Int) : Flow Unit Int := bif e != 0 then .ret e else .nxt ()
def meetB (a b : TWindow) : Bool := decide (a.From < b.To) && decide (b.From < a.To)
def conf (s : List TSlot) (i : Nat) (x : TSlot) : Bool := (s.take i).any fun o => sameB o.Room x.Room && meetB o.Time x.Time
structure SlotOK (x : TSlot) : Prop where
 key : isKey x.Key = true
 room : isKey x.Room = true
 piece : isKey x.Piece = true
 len : x.Parts.length ≤ 12
 parts : ∀ z ∈ x.Parts, isKey z = true
 time : isT x.Time = true
theorem cF' {b : Bool} {a c : Int} (h : (bif b then a else c) = 0) (ha : a ≠ 0) : b = false ∧ c = 0 := by cases b <;> simp_all
theorem sF_zero {s : List TSlot} {i : Nat} {x : TSlot} (h : sF s i x = 0) : SlotOK x := by
 unfold sF at h
 obtain ⟨h1, h⟩ := cF' h (by decide)
 obtain ⟨-, h⟩ := cF' h (by decide)
 obtain ⟨h2, h⟩ := cF' h (by decide)
 have h2' : x.Parts.length ≤ 12 := by have := of_decide_eq_false h2; omega
 by_cases hr : risF x.Parts = 0
 ·rw [hr, show ((0 : Int) != 0) = false from rfl, cond_false] at h
  obtain ⟨h3, -⟩ := cF' h (by decide)
  simp only [Bool.not_eq_false', Bool.and_eq_true] at h1 h3
  exact ⟨h1.1.1, h1.1.2, h1.2, h2', risF_zero (by omega) hr, h3⟩
 ·rw [show (risF x.Parts != 0) = true from bne_iff_ne.2 hr, cond_true] at h
  exact (hr h).elim
noncomputable def slotsF (s : List TSlot) : Int := (m_rehearse_CheckSlots s).getD 0
end Go.G
