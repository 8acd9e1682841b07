/- LQ1: programs of concerts: when items begin. In plain Lean, no program in sight. -/
import Derived.Test.YtlkpfhdlfapfhabGreatDoorLQ0
namespace Go.G
open Go Go.J
structure ItemOK (x : TItem) : Prop where
  long1 : 1 ≤ x.Long
  long2 : x.Long ≤ 86400000
  parts : x.Parts.length ≤ 12
structure ProgOK (p : TProgram) : Prop where
  len : p.Items.length ≤ 60
  item : ∀ (i : Nat) x, p.Items[i]? = some x → ItemOK x
  ch1 : 0 ≤ p.Change
  ch2 : p.Change ≤ 86400000
  cl1 : 0 ≤ p.Clap
  cl2 : p.Clap ≤ 86400000
  br1 : 0 ≤ p.Break
  br2 : p.Break ≤ 86400000
  half1 : -1 ≤ p.Half
  half2 : p.Half = -1 ∨ p.Half + 2 ≤ p.Items.length
def gap (p : TProgram) (i : Nat) : Int :=
  if (i : Int) = p.Half then p.Break else
    match p.Items[i]?, p.Items[i + 1]? with
    | some x, some y => if x.Places = y.Places then p.Clap else p.Change
    | _, _ => 0
def longI (p : TProgram) (i : Nat) : Int := match p.Items[i]? with | some x => x.Long | none => 0
def bg (p : TProgram) : Nat → Int
  | 0 => 0
  | i + 1 => bg p i + longI p i + (if i + 1 < p.Items.length then gap p i else 0)
theorem behind_spec (p : TProgram) (i : Nat) (h : i + 1 < p.Items.length) (hl : p.Items.length ≤ 60) : m_concert_behind p (i : Int) = some (gap p i) := by
  unfold m_concert_behind gap
  by_cases h0 : (i : Int) = p.Half
  · have : ((i : Int) == p.Half) = true := by simpa using h0
    rw [this, if_pos h0]; rfl
  · have : ((i : Int) == p.Half) = false := by simpa using h0
    have h1 : p.Items[i]? = some p.Items[i] := List.getElem?_eq_getElem (by omega)
    have h2 : p.Items[i + 1]? = some p.Items[i + 1] := List.getElem?_eq_getElem h
    rw [this, ifB_false, if_neg h0, getI_nat, h1, w64_id (by omega), getI_of (n := i + 1) (by omega) h2, h2]
    simp only [Option.bind_some]
    unfold m_concert_change
    by_cases h3 : p.Items[i].Places = p.Items[i + 1].Places
    · have : (p.Items[i].Places.toList == p.Items[i + 1].Places.toList) = true := by rw [h3]; simp
      rw [this, if_pos h3]; rfl
    · have : (p.Items[i].Places.toList == p.Items[i + 1].Places.toList) = false := by
        rw [Bool.eq_false_iff]; intro e; exact h3 (ba_toList_inj.1 (by simpa using e))
      rw [this, if_neg h3]; rfl
theorem gap_rng {p : TProgram} (h : ProgOK p) (i : Nat) : 0 ≤ gap p i ∧ gap p i ≤ 86400000 := by
  unfold gap
  have := h.ch1; have := h.ch2; have := h.cl1; have := h.cl2; have := h.br1; have := h.br2
  split
  · omega
  · split
    · split <;> omega
    · omega
theorem longI_rng {p : TProgram} (h : ProgOK p) (i : Nat) : 0 ≤ longI p i ∧ longI p i ≤ 86400000 := by
  unfold longI
  split
  · rename_i x hx
    have := (h.item i x hx).long1; have := (h.item i x hx).long2
    omega
  · omega
theorem bg_rng {p : TProgram} (h : ProgOK p) (i : Nat) : 0 ≤ bg p i ∧ bg p i ≤ i * 172800000 := by
  induction i with
  | zero => simp [bg]
  | succ i ih =>
    have h1 := gap_rng h i; have h2 := longI_rng h i
    unfold bg
    split <;> constructor <;> omega
theorem longI_of {p : TProgram} {i : Nat} {x : TItem} (hx : p.Items[i]? = some x) : longI p i = x.Long := by unfold longI; rw [hx]
theorem range_map_succ {β : Type} (f : Nat → β) (n : Nat) : (List.range n).map f ++ [f n] = (List.range (n + 1)).map f := by rw [List.range_succ, List.map_append]; rfl
theorem begins_spec {p : TProgram} (h : ProgOK p) : m_concert_begins p = some ((List.range p.Items.length).map (bg p), bg p p.Items.length) := by
  unfold m_concert_begins
  obtain ⟨s, h1, h2⟩ := rangeM_invx (m_concert_begins_l1 p) p.Items (fun i s => s = (bg p i, (List.range i).map (bg p))) (by
    rintro i x s hx rfl
    have hi := (List.getElem?_eq_some_iff.1 hx).1
    have hl := h.len
    have hb := bg_rng h i; have hg := gap_rng h i; have hlo := longI_rng h i
    rw [longI_of hx] at hlo
    unfold m_concert_begins_l1
    rw [appM_of (by simp; omega) (by omega), Option.bind_some, range_map_succ, w64_id (n := (i : Int) + 1) (by omega), w64_id (n := bg p i + x.Long) (by omega)]
    by_cases hlt : i + 1 < p.Items.length
    · rw [decide_eq_true (by omega), ifB_true, behind_spec p i hlt hl, Option.bind_some, w64_id (by omega)]
      refine ⟨_, rfl, ?_⟩
      simp only [bg, if_pos hlt, longI_of hx]
    · rw [decide_eq_false (by omega), ifB_false]
      refine ⟨_, rfl, ?_⟩
      simp only [bg, if_neg hlt, longI_of hx, Int.add_zero]) (0, []) rfl
  rw [h1, h2]; rfl
end Go.G
