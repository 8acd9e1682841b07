/- LVd: VoicesJudged. In plain Lean, no program in sight. -/
import Derived.Test.YthonhgainmokhadGreatDoorLVb
import Derived.Test.YthonhgainmokhadGreatDoorLH5
namespace Go.G
open Go Go.J
set_option linter.unusedSimpArgs false
set_option linter.unusedVariables false
def sgI (x : Int) : Int := if x < 0 then -1 else if x > 0 then 1 else 0
def fB (was is : List Int) (kind : Nat) (low high : Nat) (leap : Int) : Bool :=
 match kind with
 | 1 => decide (high = low + 1 ∧ nt is low > nt is high)
 | 2 => decide (high = low + 1 ∧ 0 < low ∧ szI (nt is high - nt is low) > 12)
 | 3 => decide (low < high) && apF was is low high 7
 | 4 => decide (low < high) && apF was is low high 0
 | _ => decide (low = high ∧ szI (nt is low - nt was low) > leap)
def refK (a : Int) (was is : List Int) (leap : Int) (kind low : Nat) : List TFault := (List.range' low (is.length - low)).flatMap fun high => if fB was is kind low high leap = true then [⟨a, (kind : Int), (low : Int), (high : Int)⟩] else []
def refAt (a : Int) (was is : List Int) (leap : Int) : List TFault := (List.range' 1 5).flatMap fun kind => (List.range is.length).flatMap (refK a was is leap kind)
def chkL (r k t : Nat) : Bool := match m_gleeref2_TonesOf ⟨r, k, t⟩ with
 | some T => decide (0 < T.length)
 | none => false
theorem chkL_all : ((List.range 12).all fun r => (List.range 8).all fun k => (List.range 4).all fun t => decide (k = 0) || chkL r k t) = true := by decide +kernel
theorem TonesOf_pos {r k t : Nat} (hr : r < 12) (hk : 1 ≤ k ∧ k ≤ 7) (ht : t < 4) : ∃ T, m_gleeref2_TonesOf ⟨r, k, t⟩ = some T ∧ 0 < T.length := by
 have h := List.all_eq_true.1 (List.all_eq_true.1 (List.all_eq_true.1 chkL_all r (List.mem_range.2 hr)) k (List.mem_range.2 (by omega))) t (List.mem_range.2 ht)
 rw [decide_eq_false (by omega), Bool.false_or] at h
 unfold chkL at h
 split at h
 ·exact ⟨_, by assumption, of_decide_eq_true h⟩
 ·exact absurd h (by simp)
theorem right_pos {c : TChord} (h : ∃ r k t, Right c r k t) : ∃ T, m_chord_tones c = some T ∧ m_gleeref2_TonesOf c = some T ∧ T.length ≤ 4 ∧ 0 < T.length := by
 obtain ⟨T, h1, h2, h3, -⟩ := right_tones h
 obtain ⟨r, k, t, rfl, hr, hk, ht⟩ := h
 have := klen_le hk
 obtain ⟨T', h4, h5⟩ := TonesOf_pos hr hk (t := t) (by omega)
 rw [h2] at h4
 cases h4
 exact ⟨T, h1, h2, h3, h5⟩
end Go.G
