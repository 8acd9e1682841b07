/- LAt: acts as lines: read by the program's club and by the reference. In plain Lean, no program in sight. -/
import Derived.Test.YtlhfimbpjdfdgadGreatDoorLT3
import Derived.Test.YtlhfimbpjdfdgadGreatDoorLY2
namespace Go.G
open Go Go.J
set_option linter.unusedSimpArgs false
set_option linter.unusedVariables false
def joinW : BL := [106, 111, 105, 110]
def quitW : BL := [113, 117, 105, 116]
def payW : BL := [112, 97, 121]
def putW : BL := [112, 117, 116]
def voteW : BL := [118, 111, 116, 101]
def endW : BL := [101, 110, 100]
def undoW : BL := [117, 110, 100, 111]
def yesW : BL := [121, 101, 115]
def noW : BL := [110, 111]
abbrev E0 := ByteArray.empty
def restK : Nat → ByteArray → Int → Int → List ByteArray → Option TAct
 | 1, s, n, a, [w, c] => (numB c).map fun c => ⟨s, n, a, 1, w, E0, c, false, E0, 0⟩
 | 2, s, n, a, [w] => some ⟨s, n, a, 2, w, E0, 0, false, E0, 0⟩
 | 3, s, n, a, [w, c] => (numB c).map fun c => ⟨s, n, a, 3, w, E0, c, false, E0, 0⟩
 | 4, s, n, a, [m] => some ⟨s, n, a, 4, E0, m, 0, false, E0, 0⟩
 | 5, s, n, a, [w, m, y] => if y = toB yesW then some ⟨s, n, a, 5, w, m, 0, true, E0, 0⟩ else if y = toB noW then some ⟨s, n, a, 5, w, m, 0, false, E0, 0⟩ else none
 | 6, s, n, a, [m] => some ⟨s, n, a, 6, E0, m, 0, false, E0, 0⟩
 | 7, s, n, a, [o, z] => (numB z).map fun z => ⟨s, n, a, 7, E0, E0, 0, false, o, z⟩
 | _, _, _, _, _ => none
def idxN (k : ByteArray) : Nat := if k = toB joinW then 1 else if k = toB quitW then 2 else if k = toB payW then 3 else if k = toB putW then 4 else if k = toB voteW then 5 else if k = toB endW then 6 else if k = toB undoW then 7 else 0
def wordsF : List ByteArray → Option TAct
 | s :: n :: a :: k :: r => match numB n, numB a with
  | some n, some a => restK (idxN k) s n a r
  | _, _ => none
 | _ => none
def actL (x : BL) : Option TAct := if [] ∈ spl 32 x then none else wordsF ((spl 32 x).map toB)
theorem numB_empty : numB ByteArray.empty = none := by kernel_rfl
theorem kitNum (x : ByteArray) (hx : x.size ≤ 1000000) : m_kit_Number x 15 = some ((numB x).getD 0, (numB x).isSome) := (Number_spec x hx).1
theorem nextE (b : Bool) : m_club_words_next [] b = some (ByteArray.empty, [], true) := rfl
theorem nextC (x : ByteArray) (t : List ByteArray) (b : Bool) : m_club_words_next (x :: t) b = some (x, t, b) := by
 unfold m_club_words_next
 rw [show (((x :: t).length : Int) == 0) = false by rw [beq_eq_false_iff_ne]; simp only [List.length_cons]; omega, ifB_false, show getI (x :: t) 0 = some x from rfl, Option.bind_some,
  sliceI_of (lo := 1) (a := 1) (b := (x :: t).length) rfl rfl (by simp) (Nat.le_refl _), Option.bind_some]
 simp
theorem numE (b : Bool) : m_club_words_number [] b = some (0, [], true) := by
 unfold m_club_words_number
 rw [nextE, Option.bind_some, kitNum _ (by decide), numB_empty]; rfl
theorem numC (x : ByteArray) (t : List ByteArray) (b : Bool) (hx : x.size ≤ 1000000) : m_club_words_number (x :: t) b = some ((numB x).getD 0, t, b || !(numB x).isSome) := by
 unfold m_club_words_number
 rw [nextC, Option.bind_some, kitNum x hx, Option.bind_some]
 cases b <;> rfl
theorem yesE (b : Bool) : m_club_words_yes [] b = some (false, [], true) := by
 unfold m_club_words_yes
 rw [nextE, Option.bind_some]; kernel_rfl
theorem yesC (x : ByteArray) (t : List ByteArray) (b : Bool) : m_club_words_yes (x :: t) b = some (decide (x = toB yesW), t, b || !(decide (x = toB yesW) || decide (x = toB noW))) := by
 unfold m_club_words_yes
 rw [nextC, Option.bind_some]
 simp only
 have e1 : (x.toList == (ByteArray.mk [121, 101, 115].toArray).toList) = decide (x = toB yesW) := by
  rw [Bool.eq_iff_iff, beq_iff_eq, decide_eq_true_eq]; exact ba_toList_inj
 have e2 : (x.toList == (ByteArray.mk [110, 111].toArray).toList) = decide (x = toB noW) := by
  rw [Bool.eq_iff_iff, beq_iff_eq, decide_eq_true_eq]; exact ba_toList_inj
 rw [e1, e2]
 cases b <;> cases decide (x = toB yesW) <;> rfl
def KWs : List ByteArray := [ByteArray.empty, toB joinW, toB quitW, toB payW, toB putW, toB voteW, toB endW, toB undoW]
theorem Index_kw (k : ByteArray) : ∃ j, m_slices_Index_string_string KWs k = some j ∧ (idxN k = 0 → j < 1) ∧ (idxN k ≠ 0 → j = idxN k) := by
 unfold m_slices_Index_string_string KWs
 have hst : ∀ (i : Nat) (w : ByteArray), m_slices_Index_string_string_l1 k i w () = some (if k = w then .ret (i : Int) else .nxt ()) := fun i w => by
  unfold m_slices_Index_string_string_l1
  by_cases h : k = w
  ·rw [if_pos h, h]; simp
  ·rw [if_neg h, show (k.toList == w.toList) = false by rw [beq_eq_false_iff_ne]; exact fun e => h (ba_toList_inj.1 e)]; rfl
 have go : ∀ (i : Nat) (w : ByteArray) (t : List ByteArray), rangeM (m_slices_Index_string_string_l1 k) i (w :: t) () = if k = w then some (.ret (i : Int)) else rangeM (m_slices_Index_string_string_l1 k) (i + 1) t () := fun i w t => by
  rw [rangeM_cons, hst, Option.bind_some]
  by_cases h : k = w
  ·rw [if_pos h, if_pos h]; rfl
  ·rw [if_neg h, if_neg h]; rfl
 by_cases h0 : k = ByteArray.empty
 ·subst h0
  have e : idxN ByteArray.empty = 0 := rfl
  exact ⟨0, by rw [go, if_pos rfl]; rfl, fun _ => by decide, fun h => absurd e h⟩
 by_cases h1 : k = toB joinW
 ·have e : idxN k = 1 := by unfold idxN; simp only [if_pos h1]
  rw [e]
  exact ⟨1, by simp only [go, if_neg h0, if_pos h1]; rfl, fun h => by omega, fun _ => rfl⟩
 by_cases h2 : k = toB quitW
 ·have e : idxN k = 2 := by unfold idxN; simp only [if_neg h1, if_pos h2]
  rw [e]
  exact ⟨2, by simp only [go, if_neg h0, if_neg h1, if_pos h2]; rfl, fun h => by omega, fun _ => rfl⟩
 by_cases h3 : k = toB payW
 ·have e : idxN k = 3 := by unfold idxN; simp only [if_neg h1, if_neg h2, if_pos h3]
  rw [e]
  exact ⟨3, by simp only [go, if_neg h0, if_neg h1, if_neg h2, if_pos h3]; rfl, fun h => by omega, fun _ => rfl⟩
 by_cases h4 : k = toB putW
 ·have e : idxN k = 4 := by unfold idxN; simp only [if_neg h1, if_neg h2, if_neg h3, if_pos h4]
  rw [e]
  exact ⟨4, by simp only [go, if_neg h0, if_neg h1, if_neg h2, if_neg h3, if_pos h4]; rfl, fun h => by omega, fun _ => rfl⟩
 by_cases h5 : k = toB voteW
 ·have e : idxN k = 5 := by unfold idxN; simp only [if_neg h1, if_neg h2, if_neg h3, if_neg h4, if_pos h5]
  rw [e]
  exact ⟨5, by simp only [go, if_neg h0, if_neg h1, if_neg h2, if_neg h3, if_neg h4, if_pos h5]; rfl, fun h => by omega, fun _ => rfl⟩
 by_cases h6 : k = toB endW
 ·have e : idxN k = 6 := by unfold idxN; simp only [if_neg h1, if_neg h2, if_neg h3, if_neg h4, if_neg h5, if_pos h6]
  rw [e]
  exact ⟨6, by simp only [go, if_neg h0, if_neg h1, if_neg h2, if_neg h3, if_neg h4, if_neg h5, if_pos h6]; rfl, fun h => by omega, fun _ => rfl⟩
 by_cases h7 : k = toB undoW
 ·have e : idxN k = 7 := by unfold idxN; simp only [if_neg h1, if_neg h2, if_neg h3, if_neg h4, if_neg h5, if_neg h6, if_pos h7]
  rw [e]
  exact ⟨7, by simp only [go, if_neg h0, if_neg h1, if_neg h2, if_neg h3, if_neg h4, if_neg h5, if_neg h6, if_pos h7]; rfl, fun h => by omega, fun _ => rfl⟩
 have e : idxN k = 0 := by unfold idxN; simp only [if_neg h1, if_neg h2, if_neg h3, if_neg h4, if_neg h5, if_neg h6, if_neg h7]
 rw [e]
 exact ⟨-1, by simp only [go, if_neg h0, if_neg h1, if_neg h2, if_neg h3, if_neg h4, if_neg h5, if_neg h6, if_neg h7, rangeM_nil]; rfl, fun _ => by decide, fun h => absurd rfl h⟩
theorem idxN_le (k : ByteArray) : idxN k ≤ 7 := by
 unfold idxN
 repeat' split
 all_goals omega
theorem kindWords_is : m_club_kindWords = some KWs := rfl
def tailM (s : ByteArray) (n a i : Int) (u : Tclub_uses) (r : List ByteArray) (b : Bool) : Option (TAct × Bool) :=
 (ifB u.who ((m_club_words_next r b).bind fun y23 => some (.inl (y23.2.2, y23.1, y23.2.1))) (some (.inl (b, ByteArray.empty, r))) : Option ((Bool × ByteArray × (List ByteArray)) ⊕ (TAct × Bool))).bind fun k22 => Sum.fin k22 fun u19 => (ifB u.motion ((m_club_words_next u19.2.2 u19.1).bind fun y29 => some (.inl (y29.2.2, y29.1, y29.2.1))) (some (.inl (u19.1, ByteArray.empty, u19.2.2))) : Option ((Bool × ByteArray × (List ByteArray)) ⊕ (TAct × Bool))).bind fun k28 => Sum.fin k28 fun u25 => (ifB u.cents ((m_club_words_number u25.2.2 u25.1).bind fun y35 => some (.inl (y35.2.2, y35.1, y35.2.1))) (some (.inl (u25.1, 0, u25.2.2))) : Option ((Bool × Int × (List ByteArray)) ⊕ (TAct × Bool))).bind fun k34 => Sum.fin k34 fun u31 => (ifB u.yes ((m_club_words_yes u31.2.2 u31.1).bind fun y41 => some (.inl (y41.2.2, y41.1, y41.2.1))) (some (.inl (u31.1, false, u31.2.2))) : Option ((Bool × Bool × (List ByteArray)) ⊕ (TAct × Bool))).bind fun k40 => Sum.fin k40 fun u37 => (ifB u.undo ((m_club_words_next u37.2.2 u37.1).bind fun y47 => (m_club_words_number y47.2.1 y47.2.2).bind fun y49 => some (.inl (y49.2.2, y47.1, y49.1, y49.2.1))) (some (.inl (u37.1, ByteArray.empty, 0, u37.2.2))) : Option ((Bool × ByteArray × Int × (List ByteArray)) ⊕ (TAct × Bool))).bind fun k46 => Sum.fin k46 fun u43 => (ifB (!u43.1) (some (.inl ((u43.2.2.2.length : Int) == 0, s, n, a, i, u19.2.1, u25.2.1, u31.2.1, u37.2.1, u43.2.1, u43.2.2.1))) (some (.inl (false, s, n, a, i, u19.2.1, u25.2.1, u31.2.1, u37.2.1, u43.2.1, u43.2.2.1))) : Option ((Bool × ByteArray × Int × Int × Int × ByteArray × ByteArray × Int × Bool × ByteArray × Int) ⊕ (TAct × Bool))).bind fun k53 => Sum.fin k53 fun u51 => some ((TAct.mk u51.2.1 u51.2.2.1 u51.2.2.2.1 u51.2.2.2.2.1 u51.2.2.2.2.2.1 u51.2.2.2.2.2.2.1 u51.2.2.2.2.2.2.2.1 u51.2.2.2.2.2.2.2.2.1 u51.2.2.2.2.2.2.2.2.2.1 u51.2.2.2.2.2.2.2.2.2.2), u51.1)
def okT (s : ByteArray) (n a : Int) (i : Nat) (r : List ByteArray) (b : Bool) (o : Option (TAct × Bool)) : Prop := ∃ y, o = some (y, !b && (restK i s n a r).isSome) ∧ ∀ z, restK i s n a r = some z → y = z
theorem len0 (x : ByteArray) (t : List ByteArray) : (((x :: t).length : Int) == 0) = false := by rw [beq_eq_false_iff_ne]; simp only [List.length_cons]; omega
theorem len00 : ((([] : List ByteArray).length : Int) == 0) = true := rfl
theorem tail1 (s : ByteArray) (n a : Int) (r : List ByteArray) (b : Bool) (hr : ∀ w ∈ r, w.size ≤ 1000000) : okT s n a 1 r b (tailM s n a 1 ⟨true, false, true, false, false⟩ r b) := by
 unfold okT tailM
 rcases r with _ | ⟨w, _ | ⟨c, _ | ⟨d, t⟩⟩⟩
 ·simp only [ifB_true, ifB_false, nextC, nextE, numE, yesE, yesC, Option.bind_some, fin_inl, len00, len0, restK]
  cases b <;> exact ⟨_, rfl, fun z hz => by first | (cases hz; rfl) | cases hz⟩
 ·simp only [ifB_true, ifB_false, nextC, nextE, numE, yesE, yesC, Option.bind_some, fin_inl, len00, len0, restK]
  cases b <;> exact ⟨_, rfl, fun z hz => by first | (cases hz; rfl) | cases hz⟩
 ·simp only [ifB_true, ifB_false, nextC, nextE, numE, yesE, yesC, Option.bind_some, fin_inl, len00, len0, restK, numC c _ _ (hr c (by simp))]
  cases numB c <;> cases b <;> exact ⟨_, rfl, fun z hz => by first | (cases hz; rfl) | cases hz⟩
 ·simp only [ifB_true, ifB_false, nextC, nextE, numE, yesE, yesC, Option.bind_some, fin_inl, len00, len0, restK, numC c _ _ (hr c (by simp))]
  cases numB c <;> cases b <;> exact ⟨_, rfl, fun z hz => by first | (cases hz; rfl) | cases hz⟩
theorem tail2 (s : ByteArray) (n a : Int) (r : List ByteArray) (b : Bool) (hr : ∀ w ∈ r, w.size ≤ 1000000) : okT s n a 2 r b (tailM s n a 2 ⟨true, false, false, false, false⟩ r b) := by
 unfold okT tailM
 rcases r with _ | ⟨w, _ | ⟨c, t⟩⟩
 ·simp only [ifB_true, ifB_false, nextC, nextE, numE, yesE, yesC, Option.bind_some, fin_inl, len00, len0, restK]
  cases b <;> exact ⟨_, rfl, fun z hz => by first | (cases hz; rfl) | cases hz⟩
 ·simp only [ifB_true, ifB_false, nextC, nextE, numE, yesE, yesC, Option.bind_some, fin_inl, len00, len0, restK]
  cases b <;> exact ⟨_, rfl, fun z hz => by first | (cases hz; rfl) | cases hz⟩
 ·simp only [ifB_true, ifB_false, nextC, nextE, numE, yesE, yesC, Option.bind_some, fin_inl, len00, len0, restK]
  cases b <;> exact ⟨_, rfl, fun z hz => by first | (cases hz; rfl) | cases hz⟩
theorem tail3 (s : ByteArray) (n a : Int) (r : List ByteArray) (b : Bool) (hr : ∀ w ∈ r, w.size ≤ 1000000) : okT s n a 3 r b (tailM s n a 3 ⟨true, false, true, false, false⟩ r b) := by
 unfold okT tailM
 rcases r with _ | ⟨w, _ | ⟨c, _ | ⟨d, t⟩⟩⟩
 ·simp only [ifB_true, ifB_false, nextC, nextE, numE, yesE, yesC, Option.bind_some, fin_inl, len00, len0, restK]
  cases b <;> exact ⟨_, rfl, fun z hz => by first | (cases hz; rfl) | cases hz⟩
 ·simp only [ifB_true, ifB_false, nextC, nextE, numE, yesE, yesC, Option.bind_some, fin_inl, len00, len0, restK]
  cases b <;> exact ⟨_, rfl, fun z hz => by first | (cases hz; rfl) | cases hz⟩
 ·simp only [ifB_true, ifB_false, nextC, nextE, numE, yesE, yesC, Option.bind_some, fin_inl, len00, len0, restK, numC c _ _ (hr c (by simp))]
  cases numB c <;> cases b <;> exact ⟨_, rfl, fun z hz => by first | (cases hz; rfl) | cases hz⟩
 ·simp only [ifB_true, ifB_false, nextC, nextE, numE, yesE, yesC, Option.bind_some, fin_inl, len00, len0, restK, numC c _ _ (hr c (by simp))]
  cases numB c <;> cases b <;> exact ⟨_, rfl, fun z hz => by first | (cases hz; rfl) | cases hz⟩
theorem tail4 (s : ByteArray) (n a : Int) (r : List ByteArray) (b : Bool) (hr : ∀ w ∈ r, w.size ≤ 1000000) : okT s n a 4 r b (tailM s n a 4 ⟨false, true, false, false, false⟩ r b) := by
 unfold okT tailM
 rcases r with _ | ⟨w, _ | ⟨c, t⟩⟩
 ·simp only [ifB_true, ifB_false, nextC, nextE, numE, yesE, yesC, Option.bind_some, fin_inl, len00, len0, restK]
  cases b <;> exact ⟨_, rfl, fun z hz => by first | (cases hz; rfl) | cases hz⟩
 ·simp only [ifB_true, ifB_false, nextC, nextE, numE, yesE, yesC, Option.bind_some, fin_inl, len00, len0, restK]
  cases b <;> exact ⟨_, rfl, fun z hz => by first | (cases hz; rfl) | cases hz⟩
 ·simp only [ifB_true, ifB_false, nextC, nextE, numE, yesE, yesC, Option.bind_some, fin_inl, len00, len0, restK]
  cases b <;> exact ⟨_, rfl, fun z hz => by first | (cases hz; rfl) | cases hz⟩
theorem tail5 (s : ByteArray) (n a : Int) (r : List ByteArray) (b : Bool) (hr : ∀ w ∈ r, w.size ≤ 1000000) : okT s n a 5 r b (tailM s n a 5 ⟨true, true, false, true, false⟩ r b) := by
 unfold okT tailM
 rcases r with _ | ⟨w, _ | ⟨m, _ | ⟨y, _ | ⟨d, t⟩⟩⟩⟩
 ·simp only [ifB_true, ifB_false, nextC, nextE, numE, yesE, yesC, Option.bind_some, fin_inl, len00, len0, restK]
  cases b <;> exact ⟨_, rfl, fun z hz => by first | (cases hz; rfl) | cases hz⟩
 ·simp only [ifB_true, ifB_false, nextC, nextE, numE, yesE, yesC, Option.bind_some, fin_inl, len00, len0, restK]
  cases b <;> exact ⟨_, rfl, fun z hz => by first | (cases hz; rfl) | cases hz⟩
 ·simp only [ifB_true, ifB_false, nextC, nextE, numE, yesE, yesC, Option.bind_some, fin_inl, len00, len0, restK]
  cases b <;> exact ⟨_, rfl, fun z hz => by first | (cases hz; rfl) | cases hz⟩
 ·simp only [ifB_true, ifB_false, nextC, nextE, numE, yesE, yesC, Option.bind_some, fin_inl, len00, len0, restK]
  by_cases h1 : y = toB yesW
  ·rw [decide_eq_true h1]
   try rw [if_pos h1]
   generalize decide (y = toB noW) = q
   cases b <;> exact ⟨_, rfl, fun z hz => by first | (cases hz; rfl) | cases hz⟩
  ·rw [decide_eq_false h1]
   try rw [if_neg h1]
   by_cases h2 : y = toB noW
   ·rw [decide_eq_true h2]
    try rw [if_pos h2]
    cases b <;> exact ⟨_, rfl, fun z hz => by first | (cases hz; rfl) | cases hz⟩
   ·rw [decide_eq_false h2]
    try rw [if_neg h2]
    cases b <;> exact ⟨_, rfl, fun z hz => by first | (cases hz; rfl) | cases hz⟩
 ·simp only [ifB_true, ifB_false, nextC, nextE, numE, yesE, yesC, Option.bind_some, fin_inl, len00, len0, restK]
  by_cases h1 : y = toB yesW
  ·rw [decide_eq_true h1]
   try rw [if_pos h1]
   generalize decide (y = toB noW) = q
   cases b <;> exact ⟨_, rfl, fun z hz => by first | (cases hz; rfl) | cases hz⟩
  ·rw [decide_eq_false h1]
   try rw [if_neg h1]
   by_cases h2 : y = toB noW
   ·rw [decide_eq_true h2]
    try rw [if_pos h2]
    cases b <;> exact ⟨_, rfl, fun z hz => by first | (cases hz; rfl) | cases hz⟩
   ·rw [decide_eq_false h2]
    try rw [if_neg h2]
    cases b <;> exact ⟨_, rfl, fun z hz => by first | (cases hz; rfl) | cases hz⟩
theorem tail6 (s : ByteArray) (n a : Int) (r : List ByteArray) (b : Bool) (hr : ∀ w ∈ r, w.size ≤ 1000000) : okT s n a 6 r b (tailM s n a 6 ⟨false, true, false, false, false⟩ r b) := by
 unfold okT tailM
 rcases r with _ | ⟨w, _ | ⟨c, t⟩⟩
 ·simp only [ifB_true, ifB_false, nextC, nextE, numE, yesE, yesC, Option.bind_some, fin_inl, len00, len0, restK]
  cases b <;> exact ⟨_, rfl, fun z hz => by first | (cases hz; rfl) | cases hz⟩
 ·simp only [ifB_true, ifB_false, nextC, nextE, numE, yesE, yesC, Option.bind_some, fin_inl, len00, len0, restK]
  cases b <;> exact ⟨_, rfl, fun z hz => by first | (cases hz; rfl) | cases hz⟩
 ·simp only [ifB_true, ifB_false, nextC, nextE, numE, yesE, yesC, Option.bind_some, fin_inl, len00, len0, restK]
  cases b <;> exact ⟨_, rfl, fun z hz => by first | (cases hz; rfl) | cases hz⟩
theorem tail7 (s : ByteArray) (n a : Int) (r : List ByteArray) (b : Bool) (hr : ∀ w ∈ r, w.size ≤ 1000000) : okT s n a 7 r b (tailM s n a 7 ⟨false, false, false, false, true⟩ r b) := by
 unfold okT tailM
 rcases r with _ | ⟨w, _ | ⟨c, _ | ⟨d, t⟩⟩⟩
 ·simp only [ifB_true, ifB_false, nextC, nextE, numE, yesE, yesC, Option.bind_some, fin_inl, len00, len0, restK]
  cases b <;> exact ⟨_, rfl, fun z hz => by first | (cases hz; rfl) | cases hz⟩
 ·simp only [ifB_true, ifB_false, nextC, nextE, numE, yesE, yesC, Option.bind_some, fin_inl, len00, len0, restK]
  cases b <;> exact ⟨_, rfl, fun z hz => by first | (cases hz; rfl) | cases hz⟩
 ·simp only [ifB_true, ifB_false, nextC, nextE, numE, yesE, yesC, Option.bind_some, fin_inl, len00, len0, restK, numC c _ _ (hr c (by simp))]
  cases numB c <;> cases b <;> exact ⟨_, rfl, fun z hz => by first | (cases hz; rfl) | cases hz⟩
 ·simp only [ifB_true, ifB_false, nextC, nextE, numE, yesE, yesC, Option.bind_some, fin_inl, len00, len0, restK, numC c _ _ (hr c (by simp))]
  cases numB c <;> cases b <;> exact ⟨_, rfl, fun z hz => by first | (cases hz; rfl) | cases hz⟩
theorem readAct_words (W : List ByteArray) (hs : ∀ w ∈ W, w.size ≤ 1000000) (s : ByteArray) (h : m_kit_Words s = some (W, true)) :
  ∃ y, m_club_readAct s = some (y, (wordsF W).isSome) ∧ ∀ z, wordsF W = some z → y = z := by
 unfold m_club_readAct
 rw [h, Option.bind_some, kindWords_is]
 simp only [Bool.not_true, ifB_false, Option.bind_some]
 have hidx0 : m_slices_Index_string_string KWs ByteArray.empty = some 0 := by kernel_rfl
 match W, hs with
 | [], _ => exact ⟨_, by simp only [nextE, numE, Option.bind_some, hidx0]; rfl, fun z hz => by cases hz⟩
 | [s1], _ => exact ⟨_, by simp only [nextC, nextE, numE, Option.bind_some, hidx0]; rfl, fun z hz => by cases hz⟩
 | [s1, n], hs => exact ⟨_, by simp only [nextC, nextE, numE, numC n _ _ (hs n (by simp)), Option.bind_some, hidx0]; rfl, fun z hz => by cases hz⟩
 | [s1, n, a], hs => exact ⟨_, by simp only [nextC, nextE, numE, numC n _ _ (hs n (by simp)), numC a _ _ (hs a (by simp)), Option.bind_some, hidx0]; rfl, fun z hz => by cases hz⟩
 | s1 :: n :: a :: k :: r, hs =>
  have hn := hs n (by simp)
  have ha := hs a (by simp)
  have hr : ∀ w ∈ r, w.size ≤ 1000000 := fun w hw => hs w (by simp [hw])
  obtain ⟨j, hj, hj0, hj1⟩ := Index_kw k
  simp only [nextC, numC n _ _ hn, numC a _ _ ha, Option.bind_some, hj]
  simp only [wordsF]
  by_cases h0 : idxN k = 0
  ·rw [decide_eq_true (hj0 h0), ifB_true, h0]
   refine ⟨_, by cases numB n <;> cases numB a <;> rfl, fun z hz => ?_⟩
   cases hnn : numB n <;> cases haa : numB a <;> rw [hnn, haa] at hz <;> cases hz
  ·have hj1 := hj1 h0
   rw [decide_eq_false (by omega), ifB_false]
   have key : okT s1 ((numB n).getD 0) ((numB a).getD 0) (idxN k) r (false || !(numB n).isSome || !(numB a).isSome) ((m_club_usesOf j).bind fun u => tailM s1 ((numB n).getD 0) ((numB a).getD 0) j u r (false || !(numB n).isSome || !(numB a).isSome)) := by
    have hle := idxN_le k
    subst hj1
    have : idxN k = 1 ∨ idxN k = 2 ∨ idxN k = 3 ∨ idxN k = 4 ∨ idxN k = 5 ∨ idxN k = 6 ∨ idxN k = 7 := by omega
    rcases this with e | e | e | e | e | e | e <;> rw [e]
    ·exact tail1 _ _ _ r _ hr
    ·exact tail2 _ _ _ r _ hr
    ·exact tail3 _ _ _ r _ hr
    ·exact tail4 _ _ _ r _ hr
    ·exact tail5 _ _ _ r _ hr
    ·exact tail6 _ _ _ r _ hr
    ·exact tail7 _ _ _ r _ hr
   obtain ⟨y, hy, hz⟩ := key
   refine ⟨y, ?_, ?_⟩
   ·refine hy.trans ?_
    cases numB n <;> cases numB a <;> simp
   ·intro z hw
    cases hnn : numB n with
    | none => rw [hnn] at hw; cases hw
    | some n' =>
     cases haa : numB a with
     | none => rw [hnn, haa] at hw; cases hw
     | some a' =>
      rw [hnn, haa] at hw
      rw [hnn, haa] at hz
      exact hz z hw
theorem readAct_spec (x : BL) (hx : x.length ≤ 200000) : ∃ y, m_club_readAct (toB x) = some (y, (actL x).isSome) ∧ ∀ z, actL x = some z → y = z := by
 have hw := kitWords_spec (toB x) (by rw [toB_size]; omega)
 rw [data_toB] at hw
 unfold actL
 by_cases hn : [] ∈ spl 32 x
 ·rw [if_pos hn] at hw ⊢
  unfold m_club_readAct
  rw [hw]
  exact ⟨_, rfl, fun z hz => by cases hz⟩
 ·rw [if_neg hn] at hw ⊢
  exact readAct_words _ (fun w hm => by
   obtain ⟨v, hv, rfl⟩ := List.mem_map.1 hm
   rw [toB_size]
   have := spl_size hv
   omega) _ hw
end Go.G
