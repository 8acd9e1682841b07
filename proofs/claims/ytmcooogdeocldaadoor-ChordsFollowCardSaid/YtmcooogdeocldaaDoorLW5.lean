/- LW5: the reference's side of what may follow: broken places, ways. In plain Lean, no program in sight. -/
import Derived.Test.YtmcooogdeocldaaDoorLW3
import Derived.Test.YtmcooogdeocldaaDoorLH3
import Derived.Test.YtmcooogdeocldaaDoorLM
namespace Go.G
open Go Go.J
set_option linter.unusedSimpArgs false
set_option linter.unusedVariables false
theorem MayFollow_spec (f : List TFollow) (a b : TChord) : m_gleeref2_MayFollow f a b = some (mayB f a b) := by
  unfold m_gleeref2_MayFollow
  rw [ContainsF_spec, Option.bind_some]; rfl
theorem plain_eq : (((List.range 12).flatMap fun r => (List.range 7).flatMap fun j => AC r (1 + j)).filter fun c => !decide (c.Turn > 0)) = allW := by decide +kernel
theorem plain_len : ((List.range 12).flatMap fun r => (List.range 7).flatMap fun j => AC r (1 + j)).length ≤ 1000 := by decide +kernel
theorem plain_spec : m_gleeref2_plainChords = some allW := by
  unfold m_gleeref2_plainChords
  rw [allChords_spec, Option.bind_some]
  have e : ∀ l, m_slices_DeleteFunc_api_Chord_api_Chord__gleeref2_plainChords_1 l = dfM (TChord.mk 0 0 0) m_gleeref2_plainChords_1 l := fun _ => rfl
  rw [e, dfM_spec (TChord.mk 0 0 0) m_gleeref2_plainChords_1 (fun c => decide (c.Turn > 0)) _ (Nat.le_trans plain_len (by omega)) (fun _ _ => rfl), Option.bind_some, plain_eq]
/-! ### broken places -/
def gZ (l : List TChord) (i : Nat) : TChord := (l[i]?).getD ⟨0, 0, 0⟩
theorem gZ_of {l : List TChord} {i : Nat} {x : TChord} (h : l[i]? = some x) : gZ l i = x := by unfold gZ; rw [h]; rfl
def brkF (f : List TFollow) (l : List TChord) (n : Nat) : List Int := ((List.range n).filter fun i => decide (0 < i) && !mayB f (gZ l (i - 1)) (gZ l i)).map fun i : Nat => (i : Int)
theorem brkF_succ (f : List TFollow) (l : List TChord) (n : Nat) : brkF f l (n + 1) = brkF f l n ++ (if (decide (0 < n) && !mayB f (gZ l (n - 1)) (gZ l n)) = true then [(n : Int)] else []) := by
  unfold brkF
  rw [List.range_succ, List.filter_append, List.map_append]
  congr 1
  by_cases h : (decide (0 < n) && !mayB f (gZ l (n - 1)) (gZ l n)) = true
  · rw [if_pos h, List.filter_cons, if_pos h]; rfl
  · rw [if_neg h, List.filter_cons, if_neg h]; rfl
theorem brkF_len (f : List TFollow) (l : List TChord) (n : Nat) : (brkF f l n).length ≤ n := by
  unfold brkF
  rw [List.length_map]
  exact Nat.le_trans (List.length_filter_le _ _) (by simp)
theorem BrokenOf_spec (f : List TFollow) (l : List TChord) (hl : l.length ≤ 1000) : m_gleeref2_BrokenOf f l = some (brkF f l l.length) := by
  unfold m_gleeref2_BrokenOf
  obtain ⟨s, h1, h2⟩ := rangeM_invx (m_gleeref2_BrokenOf_l1 f l) l (fun i s => s = brkF f l i) (by
    rintro i x s hx rfl
    have hi := (List.getElem?_eq_some_iff.1 hx).1
    unfold m_gleeref2_BrokenOf_l1
    rw [brkF_succ]
    by_cases h0 : i = 0
    · subst h0
      exact ⟨_, rfl, by simp⟩
    · have hp : l[i - 1]? = some (l[i - 1]'(by omega)) := List.getElem?_eq_getElem _
      rw [ifB_ite, if_pos (show ((i : Int) > 0) by omega), getI_of (n := i - 1) (by rw [w64_id (by omega)]; omega) hp, Option.bind_some, MayFollow_spec, Option.bind_some, gZ_of hp, gZ_of hx, decide_eq_true (show 0 < i by omega)]
      have hb := brkF_len f l i
      by_cases hm : mayB f (l[i - 1]'(by omega)) x = true
      · rw [hm]; exact ⟨_, rfl, by simp⟩
      · rw [Bool.not_eq_true] at hm
        rw [hm]
        simp only [Bool.not_false, ifB_true]
        rw [appM_of (by simp; omega) (by omega), Option.bind_some]
        exact ⟨_, rfl, by simp⟩) [] rfl
  rw [h1, h2]; rfl
theorem Broken_exact (f : List TFollow) (hf : m_chord_CheckFollows f = some 0) (l : List TChord) (hr : m_chord_rowFault l = some 0) (hl : l.length ≤ 1000) : m_chord_Broken f l = some (brkF f l l.length, 0) := by
  unfold m_chord_Broken
  rw [hf, Option.bind_some, show ((0 : Int) != 0) = false from rfl, ifB_false, hr, Option.bind_some, show ((0 : Int) != 0) = false from rfl, ifB_false]
  obtain ⟨fl, hfl, i, rfl⟩ := loopM_post (m_chord_Broken_l1 f l) (fun s => ∃ i : Nat, 1 ≤ i ∧ i ≤ l.length + 1 ∧ (i ≤ l.length ∨ i = 1) ∧ s = ((i : Int), brkF f l i)) (fun s => l.length + 1 - s.1.toNat) (fun fl => ∃ i, fl = .brk (i, brkF f l l.length)) (by
    rintro s ⟨i, hi, hi2, hi3, rfl⟩
    unfold m_chord_Broken_l1
    simp only []
    by_cases hlt : (i : Int) < (l.length : Int)
    · left
      have h1 : l[i - 1]? = some (l[i - 1]'(by omega)) := List.getElem?_eq_getElem _
      have h2 : l[i]? = some (l[i]'(by omega)) := List.getElem?_eq_getElem _
      have hb := brkF_len f l i
      refine ⟨(((i + 1 : Nat) : Int), brkF f l (i + 1)), ?_, ⟨i + 1, by omega, by omega, .inl (by omega), rfl⟩, by show l.length + 1 - (((i + 1 : Nat) : Int)).toNat < l.length + 1 - ((i : Int)).toNat; omega⟩
      rw [ifB_ite, if_pos hlt, getI_of (n := i - 1) (by rw [w64_id (by omega)]; omega) h1, Option.bind_some, getI_of rfl h2, Option.bind_some, may_spec, Option.bind_some, brkF_succ, gZ_of h1, gZ_of h2, decide_eq_true (show 0 < i by omega)]
      by_cases hm : mayB f (l[i - 1]'(by omega)) (l[i]'(by omega)) = true
      · rw [hm]
        simp only [Bool.not_true, ifB_false]
        rw [w64_id (by omega)]
        simp
      · rw [Bool.not_eq_true] at hm
        rw [hm]
        simp only [Bool.not_false, ifB_true]
        rw [appM_of (by simp; omega) (by omega), Option.bind_some, w64_id (by omega)]
        simp
    · right; left
      refine ⟨((i : Int), brkF f l i), ?_, i, ?_⟩
      · rw [ifB_ite, if_neg hlt]
      · rcases hi3 with h | h
        · have : i = l.length := by omega
          rw [this]
        · subst h
          by_cases h0 : l.length = 0
          · rw [h0, brkF_succ]; simp
          · have : l.length = 1 := by omega
            rw [this]) (1, []) ⟨1, by omega, by omega, .inr rfl, by rw [brkF_succ]; simp [brkF]⟩
  rw [hfl]
  rfl
/-! ### ways -/
def nextW (f : List TFollow) (m : List (TChord × Int)) (k : Int) (z : TChord) : Option TChord := allW.find? fun x => hasM m x && ((lkM m x).getD 0 == k) && mayB f z x
def lastZ (out : List TChord) : TChord := out.getLast?.getD ⟨0, 0, 0⟩
def wayF (f : List TFollow) (m : List (TChord × Int)) : Nat → List TChord → List TChord
  | 0, out => out
  | n + 1, out => wayF f m n (out ++ (nextW f m (n : Int) (lastZ out)).toList)
theorem wayF_congr (f : List TFollow) {m m' : List (TChord × Int)} (h : ∀ x, lkM m x = lkM m' x) : ∀ n out, wayF f m n out = wayF f m' n out
  | 0, _ => rfl
  | n + 1, out => by
    unfold wayF
    have e : nextW f m (n : Int) (lastZ out) = nextW f m' (n : Int) (lastZ out) := by
      unfold nextW
      congr 1
      funext x
      rw [lkM_has, lkM_has, h x]
    rw [e]; exact wayF_congr f h n _
theorem innerW {ρ : Type} (st : Nat → TChord → List TChord → Option (Flow (List TChord) ρ)) (f : List TFollow) (m : List (TChord × Int)) (k : Int)
    (hst : ∀ i x s, st i x s = ifB (hasM m x) (ifB (((lkM m x).getD 0) == k) ((getI s (w64 ((s.length : Int) - 1))).bind fun e => ifB (mayB f e x) ((appM 24 s [x]).bind fun q => some (.brk q)) (some (.nxt s))) (some (.nxt s))) (some (.nxt s)))
    {out : List TChord} (hne : out ≠ []) (hl : out.length ≤ 1000) : ∀ (l : List TChord) (i : Nat), rangeM st i l out = some (.brk (out ++ (l.find? fun x => hasM m x && ((lkM m x).getD 0 == k) && mayB f (lastZ out) x).toList))
  | [], i => by simp [rangeM]
  | x :: l, i => by
    have hpos : 0 < out.length := List.length_pos_iff.2 hne
    have hg : getI out (w64 ((out.length : Int) - 1)) = some (lastZ out) := by
      refine getI_of (n := out.length - 1) (by rw [w64_id (by omega)]; omega) ?_
      unfold lastZ
      rw [List.getLast?_eq_getElem?, List.getElem?_eq_getElem (by omega)]; rfl
    rw [rangeM_cons, hst, List.find?_cons]
    by_cases h1 : hasM m x = true
    · by_cases h2 : ((lkM m x).getD 0 == k) = true
      · rw [h1, ifB_true, h2, ifB_true, hg, Option.bind_some]
        by_cases h3 : mayB f (lastZ out) x = true
        · rw [h3, ifB_true, appM_of (by simp; omega) (by omega), Option.bind_some]
          rfl
        · rw [Bool.not_eq_true] at h3
          rw [h3, ifB_false]
          exact innerW st f m k hst hne hl l (i + 1)
      · rw [Bool.not_eq_true] at h2
        rw [h1, ifB_true, h2, ifB_false]
        exact innerW st f m k hst hne hl l (i + 1)
    · rw [Bool.not_eq_true] at h1
      rw [h1, ifB_false]
      exact innerW st f m k hst hne hl l (i + 1)
theorem outerW {ρ : Type} (st : Int × List TChord → Option (Flow (Int × List TChord) ρ)) (f : List TFollow) (m : List (TChord × Int))
    (hst : ∀ (n : Nat) out, out ≠ [] → out.length ≤ 1000 → n ≤ 1000 → st (((n + 1 : Nat) : Int), out) = some (.nxt ((n : Int), out ++ (nextW f m (n : Int) (lastZ out)).toList)))
    (h0 : ∀ out, st ((0 : Int), out) = some (.brk (0, out))) : ∀ (n : Nat) out, out ≠ [] → out.length + n ≤ 1000 → loopM st ((n : Int), out) = some (.brk (0, wayF f m n out))
  | 0, out, _, _ => by
    show loopM st ((0 : Int), out) = _
    rw [loopM_step (h0 out)]; rfl
  | n + 1, out, hne, hl => by
    rw [loopM_step (hst n out hne (by omega) (by omega))]
    have hlen : (out ++ (nextW f m (n : Int) (lastZ out)).toList).length + n ≤ 1000 := by
      rw [List.length_append]
      have : (nextW f m (n : Int) (lastZ out)).toList.length ≤ 1 := by cases nextW f m (n : Int) (lastZ out) <;> simp
      omega
    exact outerW st f m hst h0 n _ (by simp [hne]) hlen
theorem Way_l1_next (f : List TFollow) (m : List (TChord × Int)) (n : Nat) (out : List TChord) (hne : out ≠ []) (hl : out.length ≤ 1000) (hn : n ≤ 1000) : m_chord_Way_l1 f m (((n + 1 : Nat) : Int), out) = some (.nxt ((n : Int), out ++ (nextW f m (n : Int) (lastZ out)).toList)) := by
  unfold m_chord_Way_l1
  simp only
  rw [decide_eq_true (show ((n + 1 : Nat) : Int) > 0 by omega), ifB_true, all_spec, Option.bind_some]
  have hw : w64 (((n + 1 : Nat) : Int) - 1) = (n : Int) := by rw [w64_id (by omega)]; omega
  rw [innerW (m_chord_Way_l2 f m (((n + 1 : Nat) : Int), out)) f m (n : Int) (fun i x s => by
    unfold m_chord_Way_l2
    simp only [may_spec, Option.bind_some]
    rw [hw]) hne hl allW 0, Option.bind_some, fin_brk, hw]
  rfl
theorem WayOf_l4_next (f : List TFollow) (g : Bool) (m : List (TChord × Int)) (n : Nat) (out : List TChord) (hne : out ≠ []) (hl : out.length ≤ 1000) (hn : n ≤ 1000) : m_gleeref2_WayOf_l4 f (g, m) (((n + 1 : Nat) : Int), out) = some (.nxt ((n : Int), out ++ (nextW f m (n : Int) (lastZ out)).toList)) := by
  unfold m_gleeref2_WayOf_l4
  simp only
  rw [decide_eq_true (show ((n + 1 : Nat) : Int) > 0 by omega), ifB_true, plain_spec, Option.bind_some]
  have hw : w64 (((n + 1 : Nat) : Int) - 1) = (n : Int) := by rw [w64_id (by omega)]; omega
  rw [innerW (m_gleeref2_WayOf_l5 f (g, m) (((n + 1 : Nat) : Int), out)) f m (n : Int) (fun i x s => by
    unfold m_gleeref2_WayOf_l5
    simp only [MayFollow_spec, Option.bind_some]
    rw [hw]) hne hl allW 0, Option.bind_some, fin_brk, hw]
  rfl
def plainC (c : TChord) : TChord := ⟨c.Root, c.Kind, 0⟩
/-- what a way is, out of how far each chord is -/
def wayR (f : List TFollow) (ms : List (TChord × Int)) (a : TChord) : List TChord × Bool := match lkM ms (plainC a) with | none => ([], false) | some d => (wayF f ms d.toNat [plainC a], true)
theorem Way_exact (f : List TFollow) (hf : m_chord_CheckFollows f = some 0) (a b : TChord) (hc : m_chord_checkAll [a, b] = some 0) :
    ∃ ms, StepsW f (plainC b) ms ∧ m_chord_Way f a b = some ((wayR f ms a).1, (wayR f ms a).2, 0) := by
  obtain ⟨ms, hm, h⟩ := stepsTo_spec f (plainC b)
  refine ⟨ms, h, ?_⟩
  unfold m_chord_Way
  rw [hf, Option.bind_some, show ((0 : Int) != 0) = false from rfl, ifB_false, hc, Option.bind_some, show ((0 : Int) != 0) = false from rfl, ifB_false]
  show (m_chord_stepsTo f (plainC b)).bind _ = _
  rw [hm, Option.bind_some]
  show ifB (!(hasM ms (plainC a))) _ ((loopM (m_chord_Way_l1 f ms) (((lkM ms (plainC a)).getD 0), [plainC a])).bind _) = _
  unfold wayR
  rw [lkM_has]
  cases hl : lkM ms (plainC a) with
  | none => rfl
  | some d =>
    obtain ⟨d0, d1⟩ := h.nn _ _ hl
    simp only [Option.isSome_some, Bool.not_true, ifB_false, Option.getD_some]
    have hd : (d.toNat : Int) = d := by omega
    rw [← hd, outerW (m_chord_Way_l1 f ms) f ms (Way_l1_next f ms) (fun out => rfl) d.toNat _ (by simp) (by simp; omega), Option.bind_some, fin_brk]
    rfl
end Go.G
