/- LC3: when the items of a right program begin, in plain Lean: the program's reckoning is the reference's. No program in sight. -/
import Derived.Test.YtgjbeigeejhfkaaDoorLC2
namespace Go.G
open Go Go.J
theorem between_eq : m_gleeref2_between = m_concert_behind := by
  funext p i
  unfold m_gleeref2_between m_concert_behind m_concert_change
  simp only [bind_ret]
/-- what is between item i and the next one -/
def gap (p : TProgram) (i : Nat) : Int :=
  if (i : Int) = p.Half then p.Break else
    match p.Items[i]?, p.Items[i + 1]? with
    | some x, some y => if x.Places = y.Places then p.Clap else p.Change
    | _, _ => 0
def longI (p : TProgram) (i : Nat) : Int := match p.Items[i]? with | some x => x.Long | none => 0
/-- when item i begins -/
def bg (p : TProgram) : Nat → Int
  | 0 => 0
  | i + 1 => bg p i + longI p i + (if i + 1 < p.Items.length then gap p i else 0)
theorem behind_spec (p : TProgram) (i : Nat) (h : i + 1 < p.Items.length) (hl : p.Items.length ≤ 60) : m_concert_behind p (i : Int) = some (gap p i) := by
  unfold m_concert_behind gap
  by_cases h0 : (i : Int) = p.Half
  · have : ((i : Int) == p.Half) = true := by simpa using h0
    rw [this, if_pos h0]; rfl
  · have : ((i : Int) == p.Half) = false := by simpa using h0
    have h1 : p.Items[i]? = some p.Items[i] := List.getElem?_eq_getElem (by omega)
    have h2 : p.Items[i + 1]? = some p.Items[i + 1] := List.getElem?_eq_getElem h
    rw [this, ifB_false, if_neg h0, getI_nat, h1, w64_id (by omega), getI_of (n := i + 1) (by omega) h2, h2]
    simp only [Option.bind_some]
    unfold m_concert_change
    by_cases h3 : p.Items[i].Places = p.Items[i + 1].Places
    · have : (p.Items[i].Places.toList == p.Items[i + 1].Places.toList) = true := by rw [h3]; simp
      rw [this, if_pos h3]; rfl
    · have : (p.Items[i].Places.toList == p.Items[i + 1].Places.toList) = false := by
        rw [Bool.eq_false_iff]; intro e; exact h3 (ba_toList_inj.1 (by simpa using e))
      rw [this, if_neg h3]; rfl
theorem gap_rng {p : TProgram} (h : ProgOK p) (i : Nat) : 0 ≤ gap p i ∧ gap p i ≤ 86400000 := by
  unfold gap
  have := h.ch1; have := h.ch2; have := h.cl1; have := h.cl2; have := h.br1; have := h.br2
  split
  · omega
  · split
    · split <;> omega
    · omega
theorem longI_rng {p : TProgram} (h : ProgOK p) (i : Nat) : 0 ≤ longI p i ∧ longI p i ≤ 86400000 := by
  unfold longI
  split
  · rename_i x hx
    have := (h.item i x hx).long1; have := (h.item i x hx).long2
    omega
  · omega
theorem bg_rng {p : TProgram} (h : ProgOK p) (i : Nat) : 0 ≤ bg p i ∧ bg p i ≤ i * 172800000 := by
  induction i with
  | zero => simp [bg]
  | succ i ih =>
    have h1 := gap_rng h i; have h2 := longI_rng h i
    unfold bg
    split <;> constructor <;> omega
theorem longI_of {p : TProgram} {i : Nat} {x : TItem} (hx : p.Items[i]? = some x) : longI p i = x.Long := by unfold longI; rw [hx]
theorem range_map_succ {β : Type} (f : Nat → β) (n : Nat) : (List.range n).map f ++ [f n] = (List.range (n + 1)).map f := by rw [List.range_succ, List.map_append]; rfl
theorem begins_spec {p : TProgram} (h : ProgOK p) : m_concert_begins p = some ((List.range p.Items.length).map (bg p), bg p p.Items.length) := by
  unfold m_concert_begins
  obtain ⟨s, h1, h2⟩ := rangeM_invx (m_concert_begins_l1 p) p.Items (fun i s => s = (bg p i, (List.range i).map (bg p))) (by
    rintro i x s hx rfl
    have hi := (List.getElem?_eq_some_iff.1 hx).1
    have hl := h.len
    have hb := bg_rng h i; have hg := gap_rng h i; have hlo := longI_rng h i
    rw [longI_of hx] at hlo
    unfold m_concert_begins_l1
    rw [appM_of (by simp; omega) (by omega), Option.bind_some, range_map_succ, w64_id (n := (i : Int) + 1) (by omega), w64_id (n := bg p i + x.Long) (by omega)]
    by_cases hlt : i + 1 < p.Items.length
    · rw [decide_eq_true (by omega), ifB_true, behind_spec p i hlt hl, Option.bind_some, w64_id (by omega)]
      refine ⟨_, rfl, ?_⟩
      simp only [bg, if_pos hlt, longI_of hx]
    · rw [decide_eq_false (by omega), ifB_false]
      refine ⟨_, rfl, ?_⟩
      simp only [bg, if_neg hlt, longI_of hx, Int.add_zero]) (0, []) rfl
  rw [h1, h2]; rfl
def keyI (p : TProgram) (i : Nat) : ByteArray := match p.Items[i]? with | some x => x.Key | none => ByteArray.empty
def tm (p : TProgram) (fr : Int) (i : Nat) : TTimed := ⟨keyI p i, ⟨fr + bg p i, fr + bg p i + longI p i⟩⟩
theorem keyI_of {p : TProgram} {i : Nat} {x : TItem} (hx : p.Items[i]? = some x) : keyI p i = x.Key := by unfold keyI; rw [hx]
theorem TimedOf_spec {p : TProgram} (h : ProgOK p) {fr : Int} (h0 : -1000000000000000 ≤ fr) (h1 : fr ≤ 1000000000000000) : m_gleeref2_TimedOf p fr = some ((List.range p.Items.length).map (tm p fr)) := by
  unfold m_gleeref2_TimedOf
  obtain ⟨s, h1, h2⟩ := rangeM_invx (m_gleeref2_TimedOf_l1 p) p.Items (fun i s => s = (fr + bg p i, (List.range i).map (tm p fr))) (by
    rintro i x s hx rfl
    have hi := (List.getElem?_eq_some_iff.1 hx).1
    have hl := h.len
    have hb := bg_rng h i; have hg := gap_rng h i; have hlo := longI_rng h i
    rw [longI_of hx] at hlo
    unfold m_gleeref2_TimedOf_l1
    have ht : (TTimed.mk x.Key (TWindow.mk (fr + bg p i) (w64 (fr + bg p i + x.Long)))) = tm p fr i := by
      unfold tm; rw [keyI_of hx, longI_of hx, w64_id (by omega)]
    simp only
    rw [ht, appM_of (by simp; omega) (by omega), Option.bind_some, range_map_succ, w64_id (n := (i : Int) + 1) (by omega), w64_id (n := fr + bg p i + x.Long) (by omega), between_eq]
    by_cases hlt : i + 1 < p.Items.length
    · rw [decide_eq_true (by omega), ifB_true, behind_spec p i hlt hl, Option.bind_some, w64_id (by omega)]
      refine ⟨_, rfl, ?_⟩
      simp only [bg, if_pos hlt, longI_of hx]
      congr 1; omega
    · rw [decide_eq_false (by omega), ifB_false]
      refine ⟨_, rfl, ?_⟩
      simp only [bg, if_neg hlt, longI_of hx]
      congr 1; omega) (fr, []) (by simp [bg])
  rw [h1, h2]; rfl
theorem Long_spec {p : TProgram} {e : Int} (he : m_gleeref2_ProgramFault p = some e) (h : e = 0 → ProgOK p) : m_concert_Long p = some (if e = 0 then bg p p.Items.length else 0, e) := by
  unfold m_concert_Long
  rw [CheckProgram_eq, he, Option.bind_some]
  by_cases h2 : e = 0
  · subst h2
    rw [begins_spec (h rfl)]; rfl
  · have : (e != 0) = true := by simpa using h2
    rw [this, ifB_true, if_neg h2]
end Go.G
