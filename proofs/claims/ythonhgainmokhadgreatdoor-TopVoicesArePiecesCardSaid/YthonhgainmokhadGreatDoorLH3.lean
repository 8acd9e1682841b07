/- LH3: Of is ChordsOf. In plain Lean, no program in sight. -/
import Derived.Test.YthonhgainmokhadGreatDoorLH2
namespace Go.G
open Go Go.J
noncomputable def TT (r k : Nat) : List Int := (m_chord_tones ⟨r, k, 0⟩).getD []
noncomputable def IX (r k : Nat) (v : Int) : Int := (m_slices_Index_int_int (TT r k) v).getD 0
noncomputable def GP (a : List Int) (v : Int) (r k : Nat) : List TChord := if S (TT r k) = a then [⟨r, k, IX r k v⟩] else []
theorem GP_len (a : List Int) (v : Int) (r k : Nat) : (GP a v r k).length ≤ 4 := by unfold GP; split <;> simp
def AC (r k : Nat) : List TChord := (List.range (klen k)).map fun t : Nat => ⟨r, k, (t : Int)⟩
theorem flat7_len {β : Type} (G : Nat → List β) (h : ∀ k, 1 ≤ k → k ≤ 7 → (G k).length ≤ 4) : ((List.range 7).flatMap fun j => G (1 + j)).length ≤ 28 := by
 have e : List.range 7 = [0, 1, 2, 3, 4, 5, 6] := rfl
 rw [e]
 simp only [List.flatMap_cons, List.flatMap_nil, List.length_append, List.length_nil]
 have := h (1 + 0) (by omega) (by omega)
 have := h (1 + 1) (by omega) (by omega)
 have := h (1 + 2) (by omega) (by omega)
 have := h (1 + 3) (by omega) (by omega)
 have := h (1 + 4) (by omega) (by omega)
 have := h (1 + 5) (by omega) (by omega)
 have := h (1 + 6) (by omega) (by omega)
 omega
theorem Of_loop (a : List Int) (m : Int) : rangeM (m_chord_Of_l1 a m) 0 (List.range 12) [] = some (.brk ((List.range 12).flatMap fun r => (List.range 7).flatMap fun j => GP a (m.tmod 12) r (1 + j))) := by
 have h := rangeM_app (m_chord_Of_l1 a m) (fun r => (List.range 7).flatMap fun j => GP a (m.tmod 12) r (1 + j)) 0 28 (List.range 12) [] (by simp) (fun r _ => flat7_len _ fun k _ _ => GP_len _ _ _ _) (by
  intro i x s hx hs
  have hi : i < 12 := by have := (List.getElem?_eq_some_iff.1 hx).1; simpa using this
  unfold m_chord_Of_l1
  rw [loop_to8 (m_chord_Of_l2 a m i) (fun k => GP a (m.tmod 12) i k) (0 + i * 28) 4 (fun k _ _ => GP_len _ _ _ _) (by
   intro k s h1 h7 hs
   obtain ⟨T, hT, hlen, -⟩ := chord_facts hi ⟨h1, h7⟩
   have hk4 := klen_le (k := k) ⟨h1, h7⟩
   unfold m_chord_Of_l2
   simp only
   rw [decide_eq_true (show (k : Int) ≤ 7 by omega), ifB_true, hT, Option.bind_some, set_spec T (by omega), Option.bind_some, EqualInt_spec, Option.bind_some, w64_id (by omega)]
   have hTT : TT i k = T := by unfold TT; rw [hT]; rfl
   by_cases he : S T = a
   ·obtain ⟨ix, hix⟩ := Index_total T (m.tmod 12)
    have hIX : IX i k (m.tmod 12) = ix := by unfold IX; rw [hTT, hix]; rfl
    rw [decide_eq_true he, ifB_true, hix, Option.bind_some, appM_of (by simp; omega) (by omega), Option.bind_some]
    unfold GP
    rw [hTT, if_pos he, hIX]; rfl
   ·rw [decide_eq_false he, ifB_false]
    unfold GP
    rw [hTT, if_neg he, List.append_nil]; rfl) (fun s => by
   unfold m_chord_Of_l2
   simp only
   rw [decide_eq_false (by omega), ifB_false]) s (by omega), Option.bind_some, fin_brk])
 rw [List.length_range, List.nil_append] at h
 exact h
noncomputable def TO (c : TChord) : List Int := (m_gleeref2_TonesOf c).getD []
noncomputable def dC (a : List Int) (v : Int) (c : TChord) : Bool := !(decide (S (TO c) = a) && decide ((TO c)[0]? = some v))
end Go.G
