/- LH2: which chords some notes make: the program's list is the reference's. In plain Lean, no program in sight. -/
import Derived.Test.YthonhgainmokhacGreatDoorLH1
namespace Go.G
open Go Go.J
noncomputable def S (n : List Int) : List Int := Lib.compact ((n.map fun x => x.tmod 12).mergeSort fun x y => decide (x ≤ y))
theorem set_spec (n : List Int) (hl : n.length ≤ 1000) : m_chord_set n = some (S n) := by
 unfold m_chord_set
 rw [rangeM_filterMap m_chord_set_l1 (fun x => some (x.tmod 12)) n (fun i x s hx hs => by
  have hi := (List.getElem?_eq_some_iff.1 hx).1
  unfold m_chord_set_l1
  rw [appM_of (by simp; omega) (by omega)]; rfl), Option.bind_some, fin_brk, List.filterMap_eq_map']
 unfold m_slices_Sort_int_int
 rw [if_pos (by rw [List.length_map]; omega), Option.bind_some]
 unfold m_slices_Compact_int_int
 rw [if_pos (by rw [List.length_mergeSort, List.length_map]; omega), Option.bind_some]
 rfl
theorem EqualInt_spec (a b : List Int) : m_slices_Equal_int_int a b = some (decide (a = b)) := by
 unfold m_slices_Equal_int_int
 by_cases hl : a.length = b.length
 ·rw [show ((a.length : Int) != (b.length : Int)) = false by rw [hl]; simp, ifB_false]
  obtain ⟨f, h1, h2⟩ := rangeM_stop (m_slices_Equal_int_int_l1 b) a (fun i _ => a.take i = b.take i) (fun f => match f with | .nxt _ => False | .brk _ => a = b | .ret v => v = false ∧ a ≠ b) (by
   intro i x s hx hI
   have hi := (List.getElem?_eq_some_iff.1 hx).1
   have hb : b[i]? = some b[i] := List.getElem?_eq_getElem (by omega)
   unfold m_slices_Equal_int_int_l1
   rw [getI_nat, hb, Option.bind_some]
   by_cases he : x = b[i]
   ·rw [show (x != b[i]) = false by simpa using he]
    refine ⟨_, rfl, fun _ _ => ?_, by simp, by simp⟩
    rw [List.take_add_one, List.take_add_one, hI, hx, hb, he]
   ·rw [show (x != b[i]) = true by simpa using he]
    refine ⟨_, rfl, by simp, by simp, fun v hv => ?_⟩
    cases hv
    refine ⟨rfl, fun hab => he ?_⟩
    subst hab
    rw [hb] at hx
    exact (Option.some.inj hx).symm) (fun s hI => by
   rw [List.take_length, hl, List.take_length] at hI
   exact hI) () rfl
  rw [h1, Option.bind_some]
  cases f with
  | nxt s => exact h2.elim
  | brk s => rw [decide_eq_true h2]; rfl
  | ret v => rw [h2.1, decide_eq_false h2.2]; rfl
 ·rw [show ((a.length : Int) != (b.length : Int)) = true by simp; omega, ifB_true, decide_eq_false (fun h => hl (by rw [h]))]
theorem Contains_spec (a : List Int) (v : Int) : m_slices_Contains_int_int a v = some (a.any fun x => v == x) := cfM_spec (fun x => some (v == x)) _ a (fun _ _ => rfl)
def chkR (r k : Nat) : Bool := match m_chord_tones ⟨r, k, 0⟩ with
 | some T => decide (T.length = klen k) && (List.range (klen k)).all (fun t => match m_gleeref2_TonesOf ⟨r, k, t⟩ with | some T' => T'.isPerm T && decide (T'[0]? = T[t]?) | none => false) &&
   T.all (fun v => match m_slices_Index_int_int T v with | some i => decide (((List.range (klen k)).filter fun t => decide (T[t]? = some v)).map (fun t : Nat => (t : Int)) = [i]) | none => false)
 | none => false
end Go.G
