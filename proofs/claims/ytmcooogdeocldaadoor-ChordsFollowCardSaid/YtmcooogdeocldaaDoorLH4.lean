/- LH4: Shared, Shift and Keys. In plain Lean, no program in sight. -/
import Derived.Test.YtmcooogdeocldaaDoorLH3
namespace Go.G
open Go Go.J
theorem ChordsFault_cons {c : TChord} {ec : Int} (hc : m_gleeref2_ChordFault c = some ec) (i : Nat) (l : List TChord) : rangeM m_gleeref2_ChordsFault_l1 i (c :: l) () = if ec = 0 then rangeM m_gleeref2_ChordsFault_l1 (i + 1) l () else some (.ret ec) := by
  rw [rangeM_cons]
  unfold m_gleeref2_ChordsFault_l1
  rw [hc, Option.bind_some]
  by_cases h : ec = 0
  · rw [if_pos h, show (ec != 0) = false by simpa using h]; rfl
  · rw [if_neg h, show (ec != 0) = true by simpa using h]; rfl
theorem checkAll2 {a b : TChord} {ea eb : Int} (ha : m_gleeref2_ChordFault a = some ea) (hb : m_gleeref2_ChordFault b = some eb) : m_chord_checkAll [a, b] = some (if ea = 0 then eb else ea) := by
  rw [checkAll_eq, ChordsFault_cons ha]
  by_cases h : ea = 0
  · rw [if_pos h, if_pos h, ChordsFault_cons hb]
    by_cases h2 : eb = 0
    · rw [if_pos h2, h2]; rfl
    · rw [if_neg h2]; rfl
  · rw [if_neg h, if_neg h]; rfl
theorem ChordsFault_total (l : List TChord) (n : Int) : ∃ e, m_gleeref2_ChordsFault l n = some e ∧ (e = 0 → ∀ c ∈ l, ∃ r k t, Right c r k t) := by
  unfold m_gleeref2_ChordsFault
  by_cases h : (l.length : Int) > n
  · rw [decide_eq_true h]; exact ⟨2, rfl, by simp⟩
  · rw [decide_eq_false h, ifB_false]
    obtain ⟨f, h1, h2⟩ := rangeM_stop m_gleeref2_ChordsFault_l1 l (fun i _ => ∀ c ∈ l.take i, ∃ r k t, Right c r k t) (fun f => match f with | .nxt _ => False | .brk _ => ∀ c ∈ l, ∃ r k t, Right c r k t | .ret e => e ≠ 0) (by
      intro i x s hx hI
      obtain ⟨e, he, hr⟩ := ChordFault_total x
      unfold m_gleeref2_ChordsFault_l1
      rw [he, Option.bind_some]
      by_cases h0 : e = 0
      · rw [show (e != 0) = false by simpa using h0]
        refine ⟨_, rfl, fun _ _ c hc => ?_, by simp, by simp⟩
        rw [List.take_add_one, hx] at hc
        rcases List.mem_append.1 hc with h | h
        · exact hI c h
        · simp at h; subst h; exact hr h0
      · rw [show (e != 0) = true by simpa using h0]
        exact ⟨_, rfl, by simp, by simp, fun v hv => by cases hv; exact h0⟩) (fun s hI c hc => hI c (by rw [List.take_length]; exact hc)) () (by simp)
    rw [h1, Option.bind_some]
    cases f with
    | nxt s => exact h2.elim
    | brk s => exact ⟨0, rfl, fun _ => h2⟩
    | ret e => exact ⟨e, rfl, fun h => absurd h h2⟩
def scale (i : Nat) : List Int := ([0, 2, 4, 5, 7, 9, 11] : List Int).map fun x => (w64 ((i : Int) + x)).tmod 12
def chkK (i t : Nat) : Bool := (([0, 2, 4, 5, 7, 9, 11] : List Int).any fun y => (w64 ((w64 ((t : Int) - (i : Int))) + 12)).tmod 12 == y) == (scale i).any fun y => (t : Int) == y
end Go.G
