/- LB4: tones shifted there and back; their range. In plain Lean, no program in sight. -/
import Derived.Test.YtdeoejkgmeemaaeGreatDoorLB3
namespace Go.G
open Go Go.J
set_option linter.unusedSimpArgs false
def sh (a : Int) (x : TTone) : TTone := if x.Note = -1 then x else ⟨x.Note + a, x.Long, x.Text, x.Tied⟩
theorem sh_note (a : Int) (x : TTone) : (sh a x).Note = if x.Note = -1 then -1 else x.Note + a := by
  unfold sh; split
  · assumption
  · rfl
theorem sh_long (a : Int) (x : TTone) : (sh a x).Long = x.Long := by unfold sh; split <;> rfl
theorem sh_text (a : Int) (x : TTone) : (sh a x).Text = x.Text := by unfold sh; split <;> rfl
theorem sh_tied (a : Int) (x : TTone) : (sh a x).Tied = x.Tied := by unfold sh; split <;> rfl
theorem uT_sh (a : Int) (x : TTone) : uT (sh a x) = uT x := by unfold uT; rw [sh_long]
/-- tones that can be shifted -/
def Can (a : Int) (t : List TTone) : Prop := ∀ x ∈ t, x.Note = -1 ∨ (0 ≤ x.Note ∧ x.Note ≤ 127 ∧ 0 ≤ x.Note + a ∧ x.Note + a ≤ 127)
theorem FillsR.shift {bs : List TBar} {t : List TTone} (h : FillsR bs t) {a : Int} (hc : Can a t) : FillsR bs (t.map (sh a)) := by
  refine ⟨by rw [List.length_map]; exact h.len, fun x hx => ?_, ?_, fun j x hx ht => ?_⟩
  · obtain ⟨y, hy, rfl⟩ := List.mem_map.1 hx
    have r := h.rt y hy
    refine ⟨?_, by rw [sh_long]; exact r.low, by rw [sh_text]; exact r.txt, fun hn => ?_⟩
    · rw [sh_note]
      rcases hc y hy with h1 | h1
      · left; rw [if_pos h1]
      · right; rw [if_neg (by omega)]; omega
    · rw [sh_tied, sh_text]
      refine r.sil ?_
      rw [sh_note] at hn
      rcases hc y hy with h1 | h1
      · exact h1
      · rw [if_neg (by omega)] at hn; omega
  · obtain ⟨gs, e1, e2⟩ := h.seg
    refine ⟨gs.map (List.map (sh a)), by rw [e1, List.map_flatten], ?_⟩
    rw [← e2, List.map_map]
    refine List.map_congr_left fun g _ => ?_
    unfold sumU
    simp only [Function.comp, List.map_map]
    congr 1
    exact List.map_congr_left fun x _ => uT_sh a x
  · rw [List.getElem?_map] at hx
    cases hy : t[j]? with
    | none => rw [hy] at hx; cases hx
    | some y =>
      rw [hy] at hx
      cases hx
      rw [sh_tied] at ht
      obtain ⟨z, hz, hcz⟩ := h.tie j y hy ht
      refine ⟨sh a z, by rw [List.getElem?_map, hz]; rfl, ?_⟩
      unfold carryB at hcz ⊢
      rw [Bool.and_eq_true, beq_iff_eq] at hcz
      rw [sh_text, hcz.2, Bool.and_true, beq_iff_eq, sh_note, sh_note, hcz.1]
theorem Clone_spec (t : List TTone) (hl : t.length ≤ 1000000) : m_slices_Clone_api_Tone_api_Tone t = some t := by
  unfold m_slices_Clone_api_Tone_api_Tone
  rw [appM_of (by simp; omega) (by omega)]; rfl
theorem Shift_good {bs : List TBar} {t : List TTone} {a : Int} (hcb : cB bs = 0) (h : FillsR bs t) (hc : Can a t) (ha : -127 ≤ a) (ha' : a ≤ 127) : m_piece_Shift bs t a = some (t.map (sh a), 0) := by
  have hl := h.len
  unfold m_piece_Shift
  rw [CheckTones_zero hcb h, Option.bind_some, bne_self_eq_false, ifB_false, OutsideB_spec, Option.bind_some]
  rw [show outB a (-127) 127 = false by unfold outB; simp; omega, ifB_false, Clone_spec t (by omega), Option.bind_some]
  obtain ⟨u, h1, h2⟩ := rangeM_invx (m_piece_Shift_l1 a) t (fun i u => u = (t.take i).map (sh a) ++ t.drop i) (by
    rintro i x u hx rfl
    have hi : i < t.length := (List.getElem?_eq_some_iff.1 hx).1
    have hxe : t[i] = x := by rw [List.getElem?_eq_getElem hi] at hx; exact Option.some.inj hx
    have hu : ((t.take i).map (sh a) ++ t.drop i)[i]? = some x := by
      rw [List.getElem?_append_right (by simp; omega)]
      simp [Nat.min_eq_left (Nat.le_of_lt hi), hx]
    have hset : ∀ y : TTone, ((t.take i).map (sh a) ++ t.drop i).set i y = (t.take i).map (sh a) ++ y :: t.drop (i + 1) := by
      intro y
      rw [List.set_append_right _ _ (by simp; omega), show i - ((t.take i).map (sh a)).length = 0 by simp; omega, List.drop_eq_getElem_cons hi]
      rfl
    have hnext : (t.take (i + 1)).map (sh a) ++ t.drop (i + 1) = (t.take i).map (sh a) ++ sh a x :: t.drop (i + 1) := by
      rw [List.take_add_one, hx, List.map_append, List.append_assoc]; rfl
    have hget : getI ((t.take i).map (sh a) ++ t.drop i) (i : Int) = some x := getI_of rfl hu
    unfold m_piece_Shift_l1
    simp only [hget, Option.bind_some, Int.toNat_natCast, hset]
    by_cases hn : x.Note = -1
    · rw [show (x.Note == (-1)) = true by simpa using hn, ifB_true]
      refine ⟨_, rfl, ?_⟩
      rw [hnext]
      unfold sh
      rw [if_pos hn, List.drop_eq_getElem_cons hi, hxe]
    · have hb : 0 ≤ x.Note ∧ x.Note ≤ 127 ∧ 0 ≤ x.Note + a ∧ x.Note + a ≤ 127 := by
        rcases hc x (List.mem_of_getElem? hx) with h | h
        · exact absurd h hn
        · exact h
      rw [show (x.Note == (-1)) = false by simpa using hn, ifB_false, w64_id (n := x.Note + a) (by omega)]
      have hg2 : getI ((t.take i).map (sh a) ++ (TTone.mk (x.Note + a) x.Long x.Text x.Tied) :: t.drop (i + 1)) (i : Int) = some ⟨x.Note + a, x.Long, x.Text, x.Tied⟩ := by
        refine getI_of (n := i) rfl ?_
        rw [List.getElem?_append_right (by simp; omega)]
        simp [Nat.min_eq_left (Nat.le_of_lt hi)]
      rw [hg2, Option.bind_some, OutsideB_spec, Option.bind_some]
      simp only
      rw [show outB (x.Note + a) 0 127 = false by unfold outB; simp; omega, ifB_false]
      refine ⟨_, rfl, ?_⟩
      rw [hnext]
      unfold sh
      rw [if_neg hn]) t (by simp)
  rw [h1, Option.bind_some, fin_brk, h2]
  simp
theorem sh_back {a : Int} {t : List TTone} (hc : Can a t) : (t.map (sh a)).map (sh (-a)) = t := by
  rw [List.map_map]
  conv => rhs; rw [← List.map_id t]
  refine List.map_congr_left fun x hx => ?_
  show sh (-a) (sh a x) = x
  rcases hc x hx with h | h
  · have e : sh a x = x := by unfold sh; rw [if_pos h]
    rw [e]; unfold sh; rw [if_pos h]
  · have e : sh a x = ⟨x.Note + a, x.Long, x.Text, x.Tied⟩ := by unfold sh; rw [if_neg (by omega)]
    rw [e]
    unfold sh
    rw [if_neg (by simp only; omega)]
    cases x
    simp only [TTone.mk.injEq, and_true]
    omega
/-- the range of tones and of those shifted -/
theorem range_sh {a : Int} (ha : -40 ≤ a) (ha' : a ≤ 40) : ∀ (t : List TTone) (i : Nat) (b : Bool) (lo hi : Int), (∀ x ∈ t, Mid x) → (b = true → 48 ≤ lo ∧ lo ≤ 67 ∧ 48 ≤ hi ∧ hi ≤ 67) → (b = false → lo = 127 ∧ hi = 0) →
    ∃ b' lo' hi', rangeM m_piece_RangeOf_l1 i t (b, lo, hi) = some (.brk (b', lo', hi')) ∧
      rangeM m_piece_RangeOf_l1 i (t.map (sh a)) (b, (if b = true then lo + a else 127), (if b = true then hi + a else 0)) = some (.brk (b', (if b' = true then lo' + a else 127), (if b' = true then hi' + a else 0))) ∧
      (b' = true → 48 ≤ lo' ∧ lo' ≤ 67 ∧ 48 ≤ hi' ∧ hi' ≤ 67)
  | [], i, b, lo, hi, _, h1, h2 => ⟨b, lo, hi, rfl, rfl, h1⟩
  | x :: t, i, b, lo, hi, hm, h1, h2 => by
    have hx := hm x (List.mem_cons_self ..)
    have hm' : ∀ y ∈ t, Mid y := fun y hy => hm y (List.mem_cons_of_mem _ hy)
    rw [List.map_cons, rangeM_cons, rangeM_cons]
    unfold m_piece_RangeOf_l1
    simp only
    rw [sh_note]
    by_cases hn : x.Note = -1
    · rw [if_pos hn, hn]
      have := range_sh ha ha' t (i + 1) b lo hi hm' h1 h2
      unfold m_piece_RangeOf_l1 at this
      exact this
    · have hx2 : 48 ≤ x.Note ∧ x.Note ≤ 67 := by
        rcases hx with h | h
        · exact absurd h hn
        · exact h
      rw [if_neg hn, show (x.Note != (-1)) = true by simpa using hn, show (x.Note + a != (-1)) = true by simp; omega, ifB_true, ifB_true, Option.bind_some, run_nxt, Option.bind_some, run_nxt]
      have := range_sh ha ha' t (i + 1) true (min lo x.Note) (max hi x.Note) hm' (fun _ => by
        cases b with
        | true => have := h1 rfl; omega
        | false => have := h2 rfl; omega) (fun h => by cases h)
      unfold m_piece_RangeOf_l1 at this
      have e1 : min (if b = true then lo + a else 127) (x.Note + a) = min lo x.Note + a := by
        cases b with
        | true => simp only [if_true]; omega
        | false => have := h2 rfl; simp only [Bool.false_eq_true, if_false]; omega
      have e2 : max (if b = true then hi + a else 0) (x.Note + a) = max hi x.Note + a := by
        cases b with
        | true => simp only [if_true]; omega
        | false => have := h2 rfl; simp only [Bool.false_eq_true, if_false]; omega
      rw [e1, e2]
      simpa using this
theorem Mid.can {t : List TTone} (h : ∀ x ∈ t, Mid x) {a : Int} (ha : -40 ≤ a) (ha' : a ≤ 40) : Can a t := fun x hx => by
  rcases h x hx with h1 | h1
  · exact .inl h1
  · right; omega
theorem RangeOf_sh {bs : List TBar} {t : List TTone} {a : Int} (hcb : cB bs = 0) (h : FillsR bs t) (hm : ∀ x ∈ t, Mid x) (ha : -40 ≤ a) (ha' : a ≤ 40) :
    ∃ b lo hi, m_piece_RangeOf bs t = some (if b = true then (⟨lo, hi⟩, true, 0) else (⟨0, 0⟩, false, 0)) ∧ m_piece_RangeOf bs (t.map (sh a)) = some (if b = true then (⟨lo + a, hi + a⟩, true, 0) else (⟨0, 0⟩, false, 0)) ∧ (b = true → 48 ≤ lo ∧ lo ≤ 67 ∧ 48 ≤ hi ∧ hi ≤ 67) := by
  obtain ⟨b, lo, hi, h1, h2, h3⟩ := range_sh ha ha' t 0 false 127 0 hm (fun h => by cases h) (fun _ => ⟨rfl, rfl⟩)
  have h2 : rangeM m_piece_RangeOf_l1 0 (t.map (sh a)) (false, 127, 0) = _ := h2
  refine ⟨b, lo, hi, ?_, ?_, h3⟩
  · unfold m_piece_RangeOf
    rw [CheckTones_zero hcb h, Option.bind_some, bne_self_eq_false, ifB_false, h1, Option.bind_some, fin_brk]
    cases b <;> rfl
  · unfold m_piece_RangeOf
    rw [CheckTones_zero hcb (h.shift (Mid.can hm ha ha')), Option.bind_some, bne_self_eq_false, ifB_false, h2, Option.bind_some, fin_brk]
    cases b <;> rfl
theorem EqualT_refl (xs : List TTone) : m_slices_Equal_api_Tone_api_Tone xs xs = some true := by
  unfold m_slices_Equal_api_Tone_api_Tone
  have h : ((xs.length : Int) != (xs.length : Int)) = false := by simp
  rw [h, ifB_false]
  obtain ⟨s', h1, -⟩ := rangeM_invx (m_slices_Equal_api_Tone_api_Tone_l1 xs) xs (fun _ _ => True) (fun i x s hx _ => ⟨s, by
    unfold m_slices_Equal_api_Tone_api_Tone_l1
    rw [getI_of rfl hx, Option.bind_some]
    simp, trivial⟩) () trivial
  rw [h1]; rfl
end Go.G
