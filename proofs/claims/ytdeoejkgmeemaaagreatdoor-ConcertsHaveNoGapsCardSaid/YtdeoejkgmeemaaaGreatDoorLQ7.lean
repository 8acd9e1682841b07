/- LQ7: the law of the concerts without gaps. In plain Lean, no program in sight. -/
import Derived.Test.YtdeoejkgmeemaaaGreatDoorLQ4
import Derived.Test.YtdeoejkgmeemaaaGreatDoorLG1
import Derived.Test.YtdeoejkgmeemaaaGreatDoorLR1
namespace Go.G
open Go Go.J
theorem want_gap {p : TProgram} {i : Nat} (h : i + 1 < p.Items.length) : gap p i = (if (i : Int) = p.Half then p.Break else if places p (i + 1) ≠ places p i then p.Change else p.Clap) := by
  have h1 : p.Items[i]? = some p.Items[i] := List.getElem?_eq_getElem (by omega)
  have h2 : p.Items[i + 1]? = some p.Items[i + 1] := List.getElem?_eq_getElem h
  unfold gap places
  rw [h1, h2]
  simp only
  split
  · rfl
  · by_cases e : p.Items[i].Places = p.Items[i + 1].Places
    · rw [if_pos e, if_neg (fun h => h e.symm)]
    · rw [if_neg e, if_pos (fun h => e h.symm)]
theorem tm_gap {p : TProgram} {fr : Int} {i : Nat} (h : i + 1 < p.Items.length) : (tm p fr (i + 1)).Time.From - (tm p fr i).Time.To = gap p i := by
  show fr + bg p (i + 1) - (fr + bg p i + longI p i) = _
  have : bg p (i + 1) = bg p i + longI p i + (if i + 1 < p.Items.length then gap p i else 0) := rfl
  rw [this, if_pos h]; omega
theorem tm_last {p : TProgram} {fr : Int} {n : Nat} (h : n + 1 = p.Items.length) : (tm p fr n).Time.To = fr + bg p p.Items.length := by
  show fr + bg p n + longI p n = _
  rw [← h]
  have : bg p (n + 1) = bg p n + longI p n + (if n + 1 < p.Items.length then gap p n else 0) := rfl
  rw [this, if_neg (by omega)]; omega
/-- THE LAW: at every seed the answer is true. -/
theorem ConcertsHaveNoGaps_true (L : List Int) : m_gleekeep2_ConcertsHaveNoGaps L = some true := by
  unfold m_gleekeep2_ConcertsHaveNoGaps
  obtain ⟨p, q, h1, h2, h3, h4, hr⟩ := RightProgram_right L (q := 0) (most := 5) (by omega) (by omega) (by omega) (by omega)
  have h := hr.good
  have hl := hr.len
  have hp := h.ok
  obtain ⟨fr, hf, hf1, hf2⟩ := Range_spec L (p := q) (a := 0) (b := 1000) (by omega) (by omega) (by omega) (by omega) (by omega)
  rw [h1, Option.bind_some]
  simp only
  rw [hf, Option.bind_some]
  simp only
  rw [Timetable_good h hf1 hf2, Option.bind_some, Long_zero h, Option.bind_some, Changes_good h, Option.bind_some]
  simp only
  rw [show m_gleekeep2_errs [0, 0, 0] = some 0 by kernel_rfl, Option.bind_some, show ((0 : Int) != 0) = false from rfl, ifB_false]
  have e0 : ((((List.range p.Items.length).map (tm p fr)).length : Int) != (p.Items.length : Int)) = false := by simp
  rw [e0, Option.bind_some, fin_inl, ifB_false]
  have hb : ∀ i : Nat, i < p.Items.length → 0 ≤ bg p i ∧ bg p i ≤ 864000000 ∧ 0 ≤ longI p i ∧ longI p i ≤ 86400000 := fun i hi => by
    have a1 := bg_rng hp i; have a2 := longI_rng hp i; omega
  obtain ⟨u, k1, k2⟩ := rangeM_invx (m_gleekeep2_ConcertsHaveNoGaps_l1 (p, q) ((List.range p.Items.length).map (tm p fr), 0)) ((List.range p.Items.length).map (tm p fr)) (fun i u => u = chgs p (i - 1)) (by
    rintro i x u hx rfl
    have hi : i < p.Items.length := by have := (List.getElem?_eq_some_iff.1 hx).1; simpa using this
    have hxe : x = tm p fr i := by simp [hi] at hx; exact hx.symm
    subst hxe
    have hit : p.Items[i]? = some p.Items[i] := List.getElem?_eq_getElem hi
    obtain ⟨b1, b2, b3, b4⟩ := hb i hi
    unfold m_gleekeep2_ConcertsHaveNoGaps_l1
    simp only
    rw [getI_of rfl hit, Option.bind_some]
    have c1 : w64 ((tm p fr i).Time.To - (tm p fr i).Time.From) = p.Items[i].Long := by
      show w64 (fr + bg p i + longI p i - (fr + bg p i)) = _
      rw [← longI_of hit, w64_id (by omega)]; omega
    have c2 : (tm p fr i).Key = p.Items[i].Key := keyI_of hit
    rw [c1, show (p.Items[i].Long != p.Items[i].Long) = false by simp, ifB_false, Option.bind_some, c2, show (!(p.Items[i].Key.toList == p.Items[i].Key.toList)) = false by simp, ifB_false]
    by_cases h0 : i = 0
    · subst h0
      exact ⟨_, rfl, rfl⟩
    · obtain ⟨j, rfl⟩ : ∃ j, i = j + 1 := ⟨i - 1, by omega⟩
      have hj : j < p.Items.length := by omega
      have hjt : p.Items[j]? = some p.Items[j] := List.getElem?_eq_getElem hj
      have e1 : w64 (((j + 1 : Nat) : Int) - 1) = j := by rw [w64_id (by omega)]; omega
      have e2 : ((List.range p.Items.length).map (tm p fr))[j]? = some (tm p fr j) := by simp [hj]
      obtain ⟨d1, d2, d3, d4⟩ := hb j hj
      have hgr := gap_rng hp j
      have e3 : w64 ((tm p fr (j + 1)).Time.From - (tm p fr j).Time.To) = gap p j := by rw [tm_gap hi, w64_id (by omega)]
      have hw := want_gap (p := p) hi
      have hcr := chgs_rng p j
      have e4 : chgs p (j + 1 + 1 - 1) = chgs p j + chg p j := rfl
      rw [show (((j + 1 : Nat) : Int) == 0) = false by simp; omega, ifB_false, e1, getI_of rfl e2, Option.bind_some, e3, e4]
      simp only [Nat.add_sub_cancel]
      by_cases g : (j : Int) = p.Half
      · rw [if_pos g] at hw
        rw [show ((j : Int) == p.Half) = true by simpa using g, ifB_true, hw, show (p.Break != p.Break) = false by simp, ifB_false]
        exact ⟨_, rfl, by unfold chg; rw [if_neg (fun hh => hh.1 g)]; omega⟩
      · rw [if_neg g] at hw
        rw [show ((j : Int) == p.Half) = false by simpa using g, ifB_false, getI_of rfl hjt, Option.bind_some, Option.bind_some, bne_places, ← places_get hi, ← places_get hj]
        by_cases g2 : places p (j + 1) = places p j
        · rw [if_neg (fun hh => hh g2)] at hw
          rw [decide_eq_false (p := places p (j + 1) ≠ places p j) (fun hh => hh g2), ifB_false, hw, show (p.Clap != p.Clap) = false by simp, ifB_false]
          exact ⟨_, rfl, by unfold chg; rw [if_neg (fun hh => hh.2 g2.symm)]; omega⟩
        · rw [if_pos g2] at hw
          rw [decide_eq_true (p := places p (j + 1) ≠ places p j) g2, ifB_true, hw, show (p.Change != p.Change) = false by simp, ifB_false, w64_id (by omega)]
          exact ⟨_, rfl, by unfold chg; rw [if_pos ⟨g, fun hh => g2 hh.symm⟩]⟩) 0 rfl
  rw [k1, Option.bind_some, fin_brk, k2]
  simp only [List.length_map, List.length_range]
  have hlast : (ifB (decide ((p.Items.length : Int) > 0)) ((getI ((List.range p.Items.length).map (tm p fr)) (w64 ((p.Items.length : Int) - 1))).bind fun e32 => some (.inl (e32.Time.To != (w64 (fr + bg p p.Items.length))))) (some (.inl false)) : Option (Bool ⊕ Bool)) = some (.inl false) := by
    by_cases h0 : p.Items.length = 0
    · rw [decide_eq_false (by omega), ifB_false]
    · obtain ⟨n, hn⟩ : ∃ n, n + 1 = p.Items.length := ⟨p.Items.length - 1, by omega⟩
      have e1 : w64 ((p.Items.length : Int) - 1) = n := by rw [w64_id (by omega)]; omega
      have e2 : ((List.range p.Items.length).map (tm p fr))[n]? = some (tm p fr n) := by simp [show n < p.Items.length by omega]
      have hbr := bg_rng hp p.Items.length
      rw [decide_eq_true (by omega), ifB_true, e1, getI_of rfl e2, Option.bind_some, tm_last hn, w64_id (by omega)]
      simp
  rw [hlast, Option.bind_some, fin_inl, ifB_false, show (chgs p (p.Items.length - 1) == chgs p (p.Items.length - 1)) = true by simp, ifB_true, ready_true]
  rfl
end Go.G
