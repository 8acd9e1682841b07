/- LH3: Of is ChordsOf. In plain Lean, no program in sight. -/
import Derived.Test.YtmcooogdeocldaaDoorLH2
namespace Go.G
open Go Go.J
def AC (r k : Nat) : List TChord := (List.range (klen k)).map fun t : Nat => ⟨r, k, (t : Int)⟩
theorem AC_len {r k : Nat} (hk : 1 ≤ k ∧ k ≤ 7) : (AC r k).length ≤ 4 := by
  unfold AC
  rw [List.length_map, List.length_range]
  exact klen_le hk
theorem flat7_len {β : Type} (G : Nat → List β) (h : ∀ k, 1 ≤ k → k ≤ 7 → (G k).length ≤ 4) : ((List.range 7).flatMap fun j => G (1 + j)).length ≤ 28 := by
  have e : List.range 7 = [0, 1, 2, 3, 4, 5, 6] := rfl
  rw [e]
  simp only [List.flatMap_cons, List.flatMap_nil, List.length_append, List.length_nil]
  have := h (1 + 0) (by omega) (by omega)
  have := h (1 + 1) (by omega) (by omega)
  have := h (1 + 2) (by omega) (by omega)
  have := h (1 + 3) (by omega) (by omega)
  have := h (1 + 4) (by omega) (by omega)
  have := h (1 + 5) (by omega) (by omega)
  have := h (1 + 6) (by omega) (by omega)
  omega
theorem allChords_spec : m_gleeref2_allChords = some ((List.range 12).flatMap fun r => (List.range 7).flatMap fun j => AC r (1 + j)) := by
  unfold m_gleeref2_allChords
  rw [show rangeI 12 = some (List.range 12) from rfl, Option.bind_some]
  have h := rangeM_app m_gleeref2_allChords_l1 (fun r => (List.range 7).flatMap fun j => AC r (1 + j)) 0 28 (List.range 12) [] (by simp) (fun r _ => flat7_len _ fun k h1 h7 => AC_len ⟨h1, h7⟩) (by
    intro i x s hx hs
    unfold m_gleeref2_allChords_l1
    have hi : i < 12 := by have := (List.getElem?_eq_some_iff.1 hx).1; simpa using this
    rw [loop_to8 (m_gleeref2_allChords_l2 i) (fun k => AC i k) (0 + i * 28) 4 (fun k h1 h7 => AC_len ⟨h1, h7⟩) (by
      intro k s h1 h7 hs
      obtain ⟨l, hl, hlen⟩ := kindTones_len (k := k) ⟨h1, h7⟩
      unfold m_gleeref2_allChords_l2
      simp only
      rw [decide_eq_true (show (k : Int) ≤ 7 by omega), ifB_true, hl, Option.bind_some, w64_id (by omega)]
      rw [rangeM_app (m_gleeref2_allChords_l3 i ((k : Int), s)) (fun t : Nat => [⟨i, k, (t : Int)⟩]) (0 + i * 28 + k * 4) 1 l s hs (fun _ _ => by simp) (by
        intro t x u hx hu
        have ht := (List.getElem?_eq_some_iff.1 hx).1
        have hk4 := klen_le (k := k) ⟨h1, h7⟩
        unfold m_gleeref2_allChords_l3
        rw [appM_of (by simp; omega) (by omega)]; rfl), Option.bind_some, fin_brk, hlen, ← List.map_eq_flatMap]
      rfl) (fun s => by
      unfold m_gleeref2_allChords_l2
      simp only
      rw [decide_eq_false (by omega), ifB_false]) s (by omega), Option.bind_some, fin_brk])
  rw [List.length_range, List.nil_append] at h
  rw [h, Option.bind_some, fin_brk]
end Go.G
