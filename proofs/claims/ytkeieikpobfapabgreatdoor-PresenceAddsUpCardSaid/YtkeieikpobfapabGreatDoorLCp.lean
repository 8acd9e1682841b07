/- LCp: lists of who came: put together, sorted, without doubles; as they are drawn. In plain Lean, no program in sight. -/
import Derived.Test.YtkeieikpobfapabGreatDoorLRk
import Derived.Test.YtkeieikpobfapabGreatDoorLRd
import Derived.Test.YtkeieikpobfapabGreatDoorLS2
namespace Go.G
open Go Go.J
set_option linter.unusedSimpArgs false
set_option linter.unusedVariables false
theorem ConcatC (gs : List (List TCame)) (h : (List.flatten gs).length ≤ 1000000000) : m_slices_Concat_api_Came_api_Came gs = some (List.flatten gs) := by
 have k1 : ∀ (l : List (List TCame)) (i : Nat) (u : Int), 0 ≤ u → u + ((List.flatten l).length : Int) ≤ 10000000000 → rangeM m_slices_Concat_api_Came_api_Came_l1 i l u = some (.brk (u + ((List.flatten l).length : Int))) := by
  intro l
  induction l with
  | nil => intro i u _ _; simp
  | cons g l ih =>
   intro i u hu hb
   simp only [List.flatten_cons, List.length_append, Int.natCast_add] at hb
   have e : m_slices_Concat_api_Came_api_Came_l1 i g u = some (.nxt (u + (g.length : Int))) := by
    unfold m_slices_Concat_api_Came_api_Came_l1
    rw [w64_id (by omega), decide_eq_false (by omega), ifB_false]
   rw [rangeM_cons, e, Option.bind_some, run_nxt, ih (i + 1) _ (by omega) (by omega)]
   simp only [List.flatten_cons, List.length_append, Int.natCast_add, Int.add_assoc]
 have k2 : ∀ (l : List (List TCame)) (i : Nat) (u : List TCame), u.length + (List.flatten l).length ≤ 10000000000 → rangeM m_slices_Concat_api_Came_api_Came_l2 i l u = some (.brk (u ++ List.flatten l)) := by
  intro l
  induction l with
  | nil => intro i u _; simp
  | cons g l ih =>
   intro i u hb
   simp only [List.flatten_cons, List.length_append] at hb
   have e : m_slices_Concat_api_Came_api_Came_l2 i g u = some (.nxt (u ++ g)) := by
    unfold m_slices_Concat_api_Came_api_Came_l2
    rw [appM_of (by omega) (by omega)]; rfl
   rw [rangeM_cons, e, Option.bind_some, run_nxt, ih (i + 1) _ (by rw [List.length_append]; omega)]
   simp
 unfold m_slices_Concat_api_Came_api_Came
 rw [k1 gs 0 0 (Int.le_refl _) (by omega), Option.bind_some, fin_brk, Int.zero_add]
 have hg : m_slices_Grow_api_Came_api_Came__nil ((List.flatten gs).length : Int) = some [] := by
  unfold m_slices_Grow_api_Came_api_Came__nil
  rw [decide_eq_false (by omega), ifB_false, show w64 (0 - 0) = 0 from rfl, w64_id (by omega)]
  by_cases h0 : ((List.flatten gs).length : Int) - 0 > 0
  ·have hgr : growM 32 (((List.flatten gs).length : Int) - 0) = some () := by
    unfold growM
    rw [if_pos ⟨by omega, by omega, by unfold maxLen; omega⟩]
   rw [decide_eq_true h0, ifB_true, hgr]
   rfl
  ·rw [decide_eq_false h0, ifB_false]
 rw [hg, Option.bind_some, k2 gs 0 [] (by rw [List.length_nil]; omega), List.nil_append]
 rfl
def ddGo : TCame → List TCame → List TCame
 | _, [] => []
 | p, y :: t => if y = p then ddGo y t else y :: ddGo y t
def dd : List TCame → List TCame
 | [] => []
 | x :: t => x :: ddGo x t
theorem ddGo_snoc (x : TCame) : ∀ (t : List TCame) (p : TCame), ddGo p (t ++ [x]) = if (p :: t).getLast? = some x then ddGo p t else ddGo p t ++ [x] := by
 intro t
 induction t with
 | nil =>
  intro p
  show (if x = p then ddGo x [] else x :: ddGo x []) = _
  by_cases e : x = p
  ·subst e; simp [ddGo]
  ·rw [if_neg e, if_neg (by simpa using fun g => e g.symm)]; rfl
 | cons y t ih =>
  intro p
  show (if y = p then ddGo y (t ++ [x]) else y :: ddGo y (t ++ [x])) = _
  rw [ih]
  have e1 : (p :: y :: t).getLast? = (y :: t).getLast? := by simp [List.getLast?_cons]
  rw [e1]
  show _ = if (y :: t).getLast? = some x then (if y = p then ddGo y t else y :: ddGo y t) else (if y = p then ddGo y t else y :: ddGo y t) ++ [x]
  by_cases e : y = p <;> by_cases e2 : (y :: t).getLast? = some x
  ·rw [if_pos e, if_pos e2, if_pos e2, if_pos e]
  ·rw [if_pos e, if_neg e2, if_neg e2, if_pos e]
  ·rw [if_neg e, if_pos e2, if_pos e2, if_neg e]
  ·rw [if_neg e, if_neg e2, if_neg e2, if_neg e]; rfl
theorem dd_snoc (l : List TCame) (x : TCame) : dd (l ++ [x]) = if l.getLast? = some x then dd l else dd l ++ [x] := by
 cases l with
 | nil => simp [dd, ddGo]
 | cons p t =>
  show p :: ddGo p (t ++ [x]) = _
  rw [ddGo_snoc]
  by_cases e : (p :: t).getLast? = some x
  ·rw [if_pos e, if_pos e]; rfl
  ·rw [if_neg e, if_neg e]; rfl
theorem take_last (l : List TCame) (k : Nat) (hk : 0 < k) (h : k ≤ l.length) : (l.take k).getLast? = some (l[k - 1]'(by omega)) := by
 rw [List.getLast?_eq_getElem?, List.length_take, Nat.min_eq_left h, List.getElem?_take_of_lt (by omega), List.getElem?_eq_getElem]
theorem dd_take (l : List TCame) (k : Nat) (hk : 0 < k) (h : k < l.length) : dd (l.take (k + 1)) = if l[k - 1]'(by omega) = l[k] then dd (l.take k) else dd (l.take k) ++ [l[k]] := by
 rw [List.take_add_one, List.getElem?_eq_getElem h]
 show dd (l.take k ++ [l[k]]) = _
 rw [dd_snoc, take_last l k hk (by omega)]
 by_cases e : l[k - 1]'(by omega) = l[k]
 ·rw [if_pos e, if_pos (by rw [e])]
 ·rw [if_neg e, if_neg (fun g => e (Option.some.inj g))]
theorem dd_sub : ∀ (l : List TCame), (dd l).Sublist l := by
 have key : ∀ (t : List TCame) (p : TCame), (ddGo p t).Sublist t := by
  intro t
  induction t with
  | nil => intro p; exact List.Sublist.refl _
  | cons y t ih =>
   intro p
   unfold ddGo
   split
   ·exact (ih y).cons y
   ·exact (ih y).cons_cons y
 intro l
 cases l with
 | nil => exact List.Sublist.refl _
 | cons x t => exact (key t x).cons_cons x
theorem mem_dd {x : TCame} : ∀ {l : List TCame}, x ∈ dd l ↔ x ∈ l := by
 have key : ∀ (t : List TCame) (p : TCame), x ∈ p :: ddGo p t ↔ x ∈ p :: t := by
  intro t
  induction t with
  | nil => intro p; rfl
  | cons y t ih =>
   intro p
   have := ih y
   unfold ddGo
   by_cases e : y = p
   ·subst e
    rw [if_pos rfl, this]; simp
   ·rw [if_neg e, List.mem_cons, this, List.mem_cons (a := x) (b := p)]
 intro l
 cases l with
 | nil => rfl
 | cons p t => exact key t p
theorem compact_l2 (l : List TCame) (hl : l.length ≤ 1000000) (k : Nat) (hk : 1 ≤ k) (hkl : k < l.length) (h1 : dd (l.take (k + 1)) = l.take k) :
  ∃ (kk : Nat) (s : List TCame), loopM (m_slices_Compact_api_Came_api_Came_l2 l k) ((k : Int), 1, l) = some (.brk ((kk : Int), ((l.length - k : Nat) : Int), s)) ∧ kk ≤ l.length ∧ s.length = l.length ∧ s.take kk = dd l := by
 obtain ⟨f, h2, h3⟩ := loopM_post (m_slices_Compact_api_Came_api_Came_l2 l k)
  (fun u => ∃ kk j : Nat, ∃ s : List TCame, u = ((kk : Int), (j : Int), s) ∧ 1 ≤ j ∧ k + j ≤ l.length ∧ k ≤ kk ∧ kk + 1 ≤ k + j ∧ s.length = l.length ∧ s.take kk = dd (l.take (k + j)) ∧ ∀ i, k + j ≤ i + 1 → s[i]? = l[i]?)
  (fun u => l.length - u.2.1.toNat)
  (fun f => match f with | .brk u => ∃ (kk : Nat) (s : List TCame), u = ((kk : Int), ((l.length - k : Nat) : Int), s) ∧ kk ≤ l.length ∧ s.length = l.length ∧ s.take kk = dd l | _ => False) (by
   rintro u ⟨kk, j, s, rfl, hj, hjl, hkk, hkj, hs, ht, hi⟩
   unfold m_slices_Compact_api_Came_api_Came_l2
   simp only
   rw [sliceI_of (lo := (k : Int)) (a := k) (b := l.length) rfl rfl (by omega) (by omega), Option.bind_some]
   have hq : ((s.drop k).take (l.length - k)) = s.drop k := List.take_of_length_le (by rw [List.length_drop]; omega)
   rw [hq, List.length_drop, hs]
   by_cases hlt : j < l.length - k
   ·have hkj2 : k + j < l.length := by omega
    have g1 : (s.drop k)[j]? = some l[k + j] := by rw [List.getElem?_drop, hi (k + j) (by omega), List.getElem?_eq_getElem hkj2]
    have g2 : (s.drop k)[j - 1]? = some (l[k + j - 1]'(by omega)) := by
     rw [List.getElem?_drop, show k + (j - 1) = k + j - 1 by omega, hi (k + j - 1) (by omega), List.getElem?_eq_getElem (by omega)]
    rw [decide_eq_true (by omega), ifB_true, getI_of rfl g1, Option.bind_some, w64_id (by omega), getI_of (n := j - 1) (by omega) g2, Option.bind_some]
    have hd := dd_take l (k + j) (by omega) hkj2
    by_cases e : l[k + j] = l[k + j - 1]'(by omega)
    ·rw [decide_eq_true e, Bool.not_true, ifB_false, w64_id (by omega)]
     rw [if_pos e.symm] at hd
     left
     exact ⟨_, rfl, ⟨kk, j + 1, s, rfl, by omega, by omega, hkk, by omega, hs, by rw [ht, ← hd]; rfl, fun i hh => hi i (by omega)⟩, by simp only; omega⟩
    ·rw [decide_eq_false e, Bool.not_false, ifB_true, Option.bind_some]
     rw [if_neg (fun g => e g.symm)] at hd
     have hkn : kk < s.length := by omega
     rw [getI_of rfl (List.getElem?_eq_getElem hkn), Option.bind_some, w64_id (by omega), w64_id (by omega)]
     left
     have e2 : ((kk : Int)).toNat = kk := by omega
     rw [e2]
     refine ⟨_, rfl, ⟨kk + 1, j + 1, s.set kk l[k + j], rfl, by omega, by omega, by omega, by omega, by rw [List.length_set]; exact hs, ?_, fun i hh => ?_⟩, by simp only; omega⟩
     ·rw [List.take_add_one, List.getElem?_set_self hkn, List.take_set_of_le (Nat.le_refl _), ht]
      rw [show k + (j + 1) = k + j + 1 by omega, hd]; rfl
     ·rw [List.getElem?_set_ne (by omega)]
      exact hi i (by omega)
   ·right; left
    rw [decide_eq_false (by omega), ifB_false]
    have hjk : j = l.length - k := by omega
    refine ⟨_, rfl, kk, s, by rw [hjk], by omega, hs, ?_⟩
    rw [ht, show k + j = l.length by omega, List.take_length]) ((k : Int), 1, l) ⟨k, 1, l, rfl, by omega, by omega, Nat.le_refl _, Nat.le_refl _, rfl, h1.symm, fun i _ => rfl⟩
 match f, h3 with
 | .brk u, h3 =>
  obtain ⟨kk, s, rfl, g1, g2, g3⟩ := h3
  exact ⟨kk, s, h2, g1, g2, g3⟩
theorem Compact_spec (l : List TCame) (hl : l.length ≤ 1000000) : m_slices_Compact_api_Came_api_Came l = some (dd l) := by
 unfold m_slices_Compact_api_Came_api_Came
 by_cases h2 : (l.length : Int) < 2
 ·rw [decide_eq_true h2, ifB_true]
  congr 1
  match l, h2 with
  | [], _ => rfl
  | [x], _ => rfl
  | _ :: _ :: _, h2 => simp at h2; omega
 ·rw [decide_eq_false h2, ifB_false]
  obtain ⟨f, h3, h4⟩ := loopM_post (m_slices_Compact_api_Came_api_Came_l1 l)
   (fun u => ∃ k : Nat, u = (k : Int) ∧ 1 ≤ k ∧ k ≤ l.length ∧ dd (l.take k) = l.take k)
   (fun u => l.length - u.toNat)
   (fun f => match f with | .brk _ => dd l = l | .ret v => v = dd l | _ => False) (by
    rintro u ⟨k, rfl, hk, hkl, hd⟩
    unfold m_slices_Compact_api_Came_api_Came_l1
    by_cases hlt : k < l.length
    ·rw [decide_eq_true (by omega), ifB_true, getI_of rfl (List.getElem?_eq_getElem hlt), Option.bind_some, w64_id (by omega), getI_of (n := k - 1) (by omega) (List.getElem?_eq_getElem (by omega)), Option.bind_some]
     have hd1 := dd_take l k (by omega) hlt
     by_cases e : l[k] = l[k - 1]'(by omega)
     ·rw [if_pos e.symm, hd] at hd1
      rw [decide_eq_true e, ifB_true, sliceI_of (lo := (k : Int)) (a := k) (b := l.length) rfl rfl (by omega) (by omega), Option.bind_some]
      obtain ⟨kk, s, g1, g2, g3, g4⟩ := compact_l2 l hl k hk hlt hd1
      rw [g1, Option.bind_some, fin_brk]
      simp only
      rw [sliceI_of (lo := (kk : Int)) (a := kk) (b := s.length) rfl rfl (by omega) (by omega), Option.bind_some]
      have hc : (clearM (TCame.mk 0 ByteArray.empty false) s (kk : Int)) = s.take kk ++ List.replicate (s.length - kk) (TCame.mk 0 ByteArray.empty false) := by
       unfold clearM
       rw [show ((kk : Int)).toNat = kk by omega]
      have hcl : (clearM (TCame.mk 0 ByteArray.empty false) s (kk : Int)).length = l.length := by rw [hc, List.length_append, List.length_take, List.length_replicate]; omega
      rw [sliceI_of (lo := 0) (a := 0) (b := kk) rfl rfl (Nat.zero_le _) (by omega), Option.bind_some]
      right; right
      refine ⟨_, rfl, ?_⟩
      rw [List.drop_zero, Nat.sub_zero, hc, List.take_append_of_le_length (by rw [List.length_take]; omega), List.take_take, Nat.min_self, g4]
     ·rw [if_neg (fun g => e g.symm), hd] at hd1
      rw [decide_eq_false e, ifB_false, w64_id (by omega)]
      left
      refine ⟨_, rfl, ⟨k + 1, rfl, by omega, by omega, ?_⟩, by omega⟩
      rw [hd1, List.take_add_one, List.getElem?_eq_getElem hlt]; rfl
    ·rw [decide_eq_false (by omega), ifB_false]
     right; left
     refine ⟨_, rfl, ?_⟩
     have hk2 : k = l.length := by omega
     rw [hk2, List.take_length] at hd
     exact hd) 1 ⟨1, rfl, Nat.le_refl _, by omega, by
      match l, h2 with
      | [], h2 => simp at h2
      | x :: t, _ => rfl⟩
  rw [h3, Option.bind_some]
  match f, h4 with
  | .brk u, h4 => rw [fin_brk, show dd l = l from h4]
  | .ret v, h4 => rw [fin_ret, show v = dd l from h4]
theorem sign_s (n : Int) : m_gleeref2_sign n = some (bif decide (n < 0) then -1 else bif decide (n > 0) then 1 else 0) := by
 unfold m_gleeref2_sign
 cases decide (n < 0) <;> cases decide (n > 0) <;> rfl
def cmpR (a b : TCame) : Int := bif a.At != b.At then (bif decide (a.At - b.At < 0) then -1 else bif decide (a.At - b.At > 0) then 1 else 0) else bif !(sameB a.Singer b.Singer) then Lib.compareBytes (bytesOf a.Singer) (bytesOf b.Singer) else bif a.Left == b.Left then 0 else bif b.Left then -1 else 1
theorem cmpR_ref (a b : TCame) (h : -1000000000000000 ≤ a.At ∧ a.At ≤ 1000000000000000) (h' : -1000000000000000 ≤ b.At ∧ b.At ≤ 1000000000000000) : m_gleeref2_cameOrder a b = some (cmpR a b) := by
 unfold m_gleeref2_cameOrder cmpR
 rw [w64_id (by omega), sign_s]
 cases (a.At != b.At)
 ·rw [ifB_false, cond_false]
  change ifB (!(sameB a.Singer b.Singer)) _ _ = _
  cases sameB a.Singer b.Singer
  ·rfl
  ·simp only [Bool.not_true, ifB_false, cond_false]
   cases (a.Left == b.Left)
   ·cases b.Left <;> rfl
   ·rfl
 ·rfl
theorem cmpR_C (a b : TCame) : cmpR a b = cmpC a b := by
 unfold cmpR cmpC cIn
 by_cases h1 : a.At = b.At
 ·rw [show (a.At != b.At) = false by simpa using h1, decide_eq_false (show ¬ a.At < b.At by omega), decide_eq_false (show ¬ a.At > b.At by omega)]
  simp only [cond_false, bne_self_eq_false]
  rcases cb_spec (bytesOf a.Singer) (bytesOf b.Singer) with ⟨g1, g2⟩ | ⟨g1, g2⟩ | ⟨g1, g2⟩
  ·rw [g1, show sameB a.Singer b.Singer = false from Bool.eq_false_iff.2 fun g => by rw [sameB_iff.1 g] at g2; exact bs_irr _ g2]; rfl
  ·have e : a.Singer = b.Singer := ba_toList_inj.1 (by rw [ByteArray.toList_eq, ByteArray.toList_eq]; exact g2)
   rw [g1, sameB_iff.2 e]
   unfold flagI
   cases a.Left <;> cases b.Left <;> rfl
  ·rw [g1, show sameB a.Singer b.Singer = false from Bool.eq_false_iff.2 fun g => by rw [sameB_iff.1 g] at g2; exact bs_irr _ g2]; rfl
 ·rw [show (a.At != b.At) = true by simpa using h1]
  by_cases h2 : a.At < b.At
  ·rw [decide_eq_true (show a.At - b.At < 0 by omega), decide_eq_true h2]; rfl
  ·rw [decide_eq_false (show ¬ a.At - b.At < 0 by omega), decide_eq_true (show a.At - b.At > 0 by omega), decide_eq_false h2, decide_eq_true (show a.At > b.At by omega)]; rfl
def RC (a b : TCame) : Prop := a.At < b.At ∨ (a.At = b.At ∧ (bytesOf a.Singer < bytesOf b.Singer ∨ (bytesOf a.Singer = bytesOf b.Singer ∧ a.Left = false ∧ b.Left = true)))
theorem bytesI {x y : ByteArray} (e : bytesOf x = bytesOf y) : x = y := by
 have : ofBytes (bytesOf x) = ofBytes (bytesOf y) := by rw [e]
 exact this
theorem cmpC_lt (a b : TCame) : cmpC a b < 0 ↔ RC a b := by
 unfold cmpC RC cIn flagI
 by_cases h1 : a.At < b.At
 ·rw [decide_eq_true h1]; exact ⟨fun _ => .inl h1, fun _ => show (-1 : Int) < 0 by decide⟩
 ·rw [decide_eq_false h1]
  by_cases h2 : a.At > b.At
  ·rw [decide_eq_true h2]
   exact ⟨fun h => absurd (show (1 : Int) < 0 from h) (by decide), fun h => by rcases h with h | ⟨h, -⟩ <;> omega⟩
  ·rw [decide_eq_false h2]
   have h3 : a.At = b.At := by omega
   simp only [cond_false, bne_self_eq_false]
   rcases cb_spec (bytesOf a.Singer) (bytesOf b.Singer) with ⟨e, h4⟩ | ⟨e, h4⟩ | ⟨e, h4⟩
   ·rw [e]; exact ⟨fun _ => .inr ⟨h3, .inl h4⟩, fun _ => show (-1 : Int) < 0 by decide⟩
   ·rw [e]
    cases ha : a.Left <;> cases hb : b.Left
    ·exact ⟨fun h => absurd h (by decide), fun h => by
      rcases h with h | ⟨-, h | ⟨-, -, h⟩⟩
      ·omega
      ·rw [h4] at h; exact (bs_irr _ h).elim
      ·cases h⟩
    ·exact ⟨fun _ => .inr ⟨h3, .inr ⟨h4, rfl, rfl⟩⟩, fun _ => by decide⟩
    ·exact ⟨fun h => absurd h (by decide), fun h => by
      rcases h with h | ⟨-, h | ⟨-, h, -⟩⟩
      ·omega
      ·rw [h4] at h; exact (bs_irr _ h).elim
      ·cases h⟩
    ·exact ⟨fun h => absurd h (by decide), fun h => by
      rcases h with h | ⟨-, h | ⟨-, h, -⟩⟩
      ·omega
      ·rw [h4] at h; exact (bs_irr _ h).elim
      ·cases h⟩
   ·rw [e]
    exact ⟨fun h => absurd (show (1 : Int) < 0 from h) (by decide), fun h => by
     rcases h with h | ⟨-, h | ⟨h, -⟩⟩
     ·omega
     ·exact (bs_asym h4 h).elim
     ·rw [h] at h4; exact (bs_irr _ h4).elim⟩
theorem RC_irr (a : TCame) : ¬ RC a a := by
 rintro (h | ⟨-, h | ⟨-, h1, h2⟩⟩)
 ·omega
 ·exact bs_irr _ h
 ·rw [h1] at h2; cases h2
theorem RC_trans {a b c : TCame} (h : RC a b) (h' : RC b c) : RC a c := by
 rcases h with h | ⟨h, h1⟩
 ·rcases h' with h' | ⟨h', -⟩ <;> exact .inl (by omega)
 ·rcases h' with h' | ⟨h', h2⟩
  ·exact .inl (by omega)
  ·refine .inr ⟨by omega, ?_⟩
   rcases h1 with h1 | ⟨h1, h3, h4⟩
   ·rcases h2 with h2 | ⟨h2, -⟩
    ·exact .inl (bs_trans h1 h2)
    ·exact .inl (h2 ▸ h1)
   ·rcases h2 with h2 | ⟨h2, h5, h6⟩
    ·exact .inl (h1 ▸ h2)
    ·rw [h4] at h5; cases h5
theorem RC_tri (a b : TCame) : RC a b ∨ a = b ∨ RC b a := by
 rcases Int.lt_trichotomy a.At b.At with h | h | h
 ·exact .inl (.inl h)
 ·rcases bs_tri (bytesOf a.Singer) (bytesOf b.Singer) with h1 | h1 | h1
  ·exact .inl (.inr ⟨h, .inl h1⟩)
  ·cases ha : a.Left <;> cases hb : b.Left
   ·right; left
    cases a; cases b
    simp only at h h1 ha hb
    rw [h, ha, hb, bytesI h1]
   ·exact .inl (.inr ⟨h, .inr ⟨h1, ha, hb⟩⟩)
   ·exact .inr (.inr (.inr ⟨h.symm, .inr ⟨h1.symm, hb, ha⟩⟩))
   ·right; left
    cases a; cases b
    simp only at h h1 ha hb
    rw [h, ha, hb, bytesI h1]
  ·exact .inr (.inr (.inr ⟨h.symm, .inl h1⟩))
 ·exact .inr (.inr (.inl h))
theorem RC_n {a b : TCame} (h : ¬ RC a b) : RC b a ∨ a = b := by
 rcases RC_tri a b with h1 | h1 | h1
 ·exact absurd h1 h
 ·exact .inr h1
 ·exact .inl h1
noncomputable def srtC (u : List TCame) : List TCame := u.mergeSort fun x y => !decide (cmpC y x < 0)
theorem srtC_perm (u : List TCame) : (srtC u).Perm u := List.mergeSort_perm _ _
theorem sortFM_C (cmp : TCame → TCame → Option Int) (u : List TCame) (hl : u.length ≤ 1000000) (h : ∀ x ∈ u, ∀ y ∈ u, cmp x y = some (cmpC x y)) : sortFM cmp u = some (srtC u) := by
 have hlt : ∀ x ∈ u, ∀ y ∈ u, ltM cmp x y = decide (cmpC x y < 0) := fun x hx y hy => by unfold ltM; rw [h x hx y hy]; rfl
 have ht : ∀ x ∈ u, ∀ y ∈ u, (ltM cmp x y = true ↔ RC x y) := fun x hx y hy => by rw [hlt x hx y hy, decide_eq_true_eq, cmpC_lt]
 have hf : ∀ x ∈ u, ∀ y ∈ u, (ltM cmp x y = false ↔ ¬ RC x y) := fun x hx y hy => by rw [hlt x hx y hy, decide_eq_false_iff_not, cmpC_lt]
 unfold sortFM
 rw [if_pos ⟨hl, fun x hx y hy => ⟨_, h x hx y hy⟩, fun x hx => (hf x hx x hx).2 (RC_irr x), fun x hx y hy z hz h1 h2 => (ht x hx z hz).2 (RC_trans ((ht x hx y hy).1 h1) ((ht y hy z hz).1 h2)), fun x hx y hy z hz h1 h2 => (hf x hx z hz).2 fun h3 => by
   have h1 := (hf x hx y hy).1 h1
   have h2 := (hf y hy z hz).1 h2
   rcases RC_n h1 with h4 | h4
   ·exact h2 (RC_trans h4 h3)
   ·subst h4; exact h2 h3, fun x hx y hy h1 h2 => by
   rcases RC_tri x y with h3 | h3 | h3
   ·exact absurd h3 ((hf x hx y hy).1 h1)
   ·exact h3
   ·exact absurd h3 ((hf y hy x hx).1 h2)⟩]
 have := List.map_mergeSort (r := fun x y : TCame => !ltM cmp y x) (s := fun x y => !decide (cmpC y x < 0)) (f := fun z : TCame => z) (l := u) (fun a ha b hb => by rw [hlt b hb a ha])
 rw [List.map_id', List.map_id'] at this
 rw [this]; rfl
theorem sortRef (u : List TCame) (hl : u.length ≤ 1000000) (hat : ∀ x ∈ u, -1000000000000000 ≤ x.At ∧ x.At ≤ 1000000000000000) : m_slices_SortFunc_api_Came_api_Came__gleeref2_cameOrder u = some (srtC u) :=
 sortFM_C m_gleeref2_cameOrder u hl fun x hx y hy => by rw [cmpR_ref x y (hat x hx) (hat y hy), cmpR_C]
theorem sortProg (u : List TCame) (hl : u.length ≤ 1000000) : m_slices_SortFunc_api_Came_api_Came__rehearse_compareCame u = some (srtC u) :=
 sortFM_C m_rehearse_compareCame u hl fun x _ y _ => cmpC_prog x y
theorem sortC12 (u : List TCame) (h : u.length ≤ 12) (hat : ∀ x ∈ u, -1000000000000000 ≤ x.At ∧ x.At ≤ 1000000000000000) : ∃ m, m_slices_SortFunc_api_Came_api_Came__gleeref2_cameOrder u = some m ∧ m.Perm u :=
 ⟨srtC u, sortRef u (by omega) hat, srtC_perm u⟩
structure DrC (x : TCame) : Prop where
 at_ : -1099511627776 ≤ x.At ∧ x.At ≤ 1099511627776
theorem Cames_l1 (L : List Int) {k p a : Int} (hp : OKp k p) (hk : k ≤ 900000) (ha : 0 ≤ a ∧ a ≤ 100000) (i y : Nat) (u : List TCame) (hu : u.length ≤ 100) (hd : ∀ x ∈ u, DrC x) : ∃ a' q u', m_gleemake_Stream_Cames_l1 L i y (a, p, u) = some (.nxt (a', q, u')) ∧ OKp (k + 8) q ∧ (0 ≤ a' ∧ a' ≤ a + 20) ∧ u'.length = u.length + 1 ∧ ∀ x ∈ u', DrC x := by
 suffices hs : ∃ r, m_gleemake_Stream_Cames_l1 L i y (a, p, u) = some r ∧ ∃ a' q u', r = .nxt (a', q, u') ∧ OKp (k + 8) q ∧ (0 ≤ a' ∧ a' ≤ a + 20) ∧ u'.length = u.length + 1 ∧ ∀ x ∈ u', DrC x by
  obtain ⟨r, e, a', q, u', rfl, g⟩ := hs
  exact ⟨a', q, u', e, g⟩
 unfold m_gleemake_Stream_Cames_l1
 simp only
 refine dr_Pick hp (by omega) (by simp) (by simp) fun v r1 hv => ?_
 have hv1 : 0 ≤ v ∧ v ≤ 20 := by simp only [List.mem_cons, List.not_mem_nil, or_false] at hv; omega
 refine dr_Some r1 (by omega) (by simp) (by simp) fun w r2 hw => ?_
 refine dr_Flip r2 (by omega) (by omega) fun lf r3 => ?_
 refine dr_Flip r3 (by omega) (by omega) fun b r4 => ?_
 refine ex_fin ?_
 simp only
 rw [w64_id (n := a + v) (by omega)]
 have hfin : ∀ (q : Int) (z : TCame), OKp (k + 8) q → DrC z → ∃ r', ((appM 32 u [z]).bind fun q24 => (some (.nxt (a + v, q, q24)) : Option (Flow (Int × Int × (List TCame)) ((List TCame) × Int)))) = some r' ∧ ∃ a' q u', r' = .nxt (a', q, u') ∧ OKp (k + 8) q ∧ (0 ≤ a' ∧ a' ≤ a + 20) ∧ u'.length = u.length + 1 ∧ ∀ x ∈ u', DrC x := by
  intro q z hq hz
  refine ex_app (by rw [List.length_singleton]; omega) (by omega) ?_
  refine ⟨_, rfl, _, _, _, rfl, hq, by omega, by rw [List.length_append, List.length_singleton], fun x hx => ?_⟩
  rcases List.mem_append.1 hx with hx | hx
  ·exact hd x hx
  ·rw [List.mem_singleton.1 hx]; exact hz
 cases b with
 | false => exact ⟨_, rfl, _, rfl, hfin _ _ (r4.up (by omega)) ⟨by simp only; omega⟩⟩
 | true =>
  simp only [ifB_true]
  refine dr_OddV r4 (by omega) (by omega) (by omega) (by omega) fun c r5 hc => ?_
  refine dr_Some r5 (by omega) (by simp) (by simp) fun z r6 _ => ?_
  exact ⟨_, rfl, _, rfl, hfin _ _ (r6.up (by omega)) ⟨by simp only; omega⟩⟩
theorem Cames_spec (L : List Int) {p : Int} (n : Nat) (hn : n ≤ 12) (hp : 0 ≤ p) (hp' : p ≤ 700000) : ∃ l q, m_gleemake_Stream_Cames L p (n : Int) = some (l, q) ∧ 0 ≤ q ∧ q ≤ p + 8 * n ∧ l.length ≤ n ∧ ∀ x ∈ l, DrC x := by
 unfold m_gleemake_Stream_Cames
 rw [rangeI_of (by omega), Option.bind_some]
 have en : ((n : Int)).toNat = n := by omega
 rw [en]
 obtain ⟨s, h1, h2⟩ := rangeM_invx (m_gleemake_Stream_Cames_l1 L) (List.range n) (fun j s => (0 ≤ s.1 ∧ s.1 ≤ 20 * (j : Int)) ∧ OKp (p + 8 * (j : Int)) s.2.1 ∧ s.2.2.length = j ∧ ∀ x ∈ s.2.2, DrC x) (by
  intro j y s hy hI
  have hj : j < n := by simpa using (List.getElem?_eq_some_iff.1 hy).1
  obtain ⟨a2, p2, u2⟩ := s
  obtain ⟨g1, g2, g3, g4⟩ := hI
  simp only at g1 g2 g3 g4
  obtain ⟨a', q, u', e, k1, k2, k3, k4⟩ := Cames_l1 L (a := a2) g2 (by omega) (by omega) j y u2 (by omega) g4
  exact ⟨(a', q, u'), e, ⟨by simp only; omega, by simp only; omega⟩, k1.up (by omega), by simp only; omega, k4⟩) (0, p, []) ⟨⟨by simp, by simp⟩, by unfold OKp; simp; omega, rfl, fun _ h => by cases h⟩
 rw [h1, Option.bind_some, fin_brk]
 obtain ⟨a2, p2, u2⟩ := s
 rw [List.length_range] at h2
 obtain ⟨g1, g2, g3, g4⟩ := h2
 simp only at g1 g2 g3 g4 ⊢
 unfold m_gleeref2_CameOf
 rw [ConcatC _ (by simp; omega), Option.bind_some]
 have ef : List.flatten [u2, []] = u2 := by simp
 rw [ef]
 obtain ⟨m, k1, k2⟩ := sortC12 u2 (by omega) (fun x hx => by have := (g4 x hx).at_; omega)
 have hml := k2.length_eq
 rw [k1, Option.bind_some, Compact_spec m (by omega), Option.bind_some]
 have hdl := (dd_sub m).length_le
 rw [decide_eq_false (by omega), ifB_false, Option.bind_some]
 unfold OKp at g2
 exact ⟨dd m, p2, rfl, g2.1, by omega, by omega, fun x hx => g4 x (k2.subset ((dd_sub m).subset hx))⟩
theorem cm_ref (c : List TCame) (hl : c.length ≤ 1000000) (hd : ∀ x ∈ c, DrC x) (i : Nat) (x : TCame) (hx : c[i]? = some x) : m_gleeref2_CameFault_l1 c i x () = some (out1S (cmF c i x)) := by
 have hi := (List.getElem?_eq_some_iff.1 hx).1
 unfold m_gleeref2_CameFault_l1 m_gleeref2_Moment cmF out1S
 rw [in_spec, isKey_ref]
 change ((some (isMo x.At) : Option Bool).bind _).bind _ = _
 simp only [Option.bind_some]
 cases isMo x.At
 ·rfl
 cases isKey x.Singer
 ·rfl
 simp only [Bool.not_true, ifB_false, cond_false]
 by_cases h0 : i = 0
 ·rw [if_pos h0, decide_eq_false (by omega)]; rfl
 ·have hg : c[i - 1]? = some (c[i - 1]'(by omega)) := List.getElem?_eq_getElem (by omega)
  have hd1 := (hd _ (List.mem_of_getElem? hg)).at_
  have hd2 := (hd x (List.mem_of_getElem? hx)).at_
  rw [if_neg h0, decide_eq_true (by omega), ifB_true, w64_id (by omega), getI_of (n := i - 1) (by omega) hg, hg, Option.bind_some, cmpR_ref _ _ (by omega) (by omega), Option.bind_some, cmpR_C]
  simp only
  cases decide (cmpC (c[i - 1]'(by omega)) x ≥ 0) <;> rfl
theorem CameF_zero (c : List TCame) (hl : c.length ≤ 1000) (hd : ∀ x ∈ c, DrC x) : ∃ e, m_gleeref2_CameFault c = some e ∧ (e = 0 ↔ CmOK c) := by
 unfold m_gleeref2_CameFault
 rw [decide_eq_false (by omega), ifB_false]
 obtain ⟨e, h1, h2⟩ := loop_out _ (cmF c) c (cm_ref c (by omega) hd)
 exact ⟨e, h1, fun g => ⟨by omega, h2.1 g⟩, fun g => h2.2 g.2⟩
theorem CmOK_nil : CmOK [] := ⟨by simp, fun i x h => by simp at h⟩
theorem RightCames_spec (L : List Int) {p : Int} (n : Nat) (hn : n ≤ 12) (hp : 0 ≤ p) (hp' : p ≤ 500000) : ∃ l q, m_gleemake_Stream_RightCames L p (n : Int) = some (l, q) ∧ 0 ≤ q ∧ q ≤ p + 1000 ∧ l.length ≤ n ∧ CmOK l ∧ ∀ x ∈ l, DrC x := by
 unfold m_gleemake_Stream_RightCames
 rw [rangeI_of (by omega), Option.bind_some]
 obtain ⟨f, h1, h2⟩ := rangeM_stop (m_gleemake_Stream_RightCames_l1 L (n : Int)) (List.range (5 : Int).toNat) (fun i q => 0 ≤ q ∧ q ≤ p + 100 * (i : Int))
  (fun f => match f with | .nxt _ => False | .brk q => 0 ≤ q ∧ q ≤ p + 1000 | .ret v => 0 ≤ v.2 ∧ v.2 ≤ p + 1000 ∧ v.1.length ≤ n ∧ CmOK v.1 ∧ ∀ x ∈ v.1, DrC x) (by
  intro i x q hx hI
  have hi : i < 5 := by simpa using (List.getElem?_eq_some_iff.1 hx).1
  unfold m_gleemake_Stream_RightCames_l1
  obtain ⟨l, q', g1, g2, g3, g4, g5⟩ := Cames_spec L (p := q) n hn hI.1 (by omega)
  rw [g1, Option.bind_some]
  simp only
  obtain ⟨e, k1, k2⟩ := CameF_zero l (by omega) g5
  rw [k1, Option.bind_some]
  cases hz : (e == 0) with
  | true =>
   have hz' : e = 0 := by simpa using hz
   exact ⟨.ret (l, q'), rfl, by simp, by simp, by rintro v hv; cases hv; exact ⟨g2, by omega, g4, k2.1 hz', g5⟩⟩
  | false => exact ⟨.nxt q', rfl, fun s' hs => by cases hs; omega, by simp, by simp⟩) (fun q hq => by
   have : (List.range (5 : Int).toNat).length = 5 := rfl
   rw [this] at hq
   exact ⟨hq.1, by omega⟩) p (by omega)
 rw [h1, Option.bind_some]
 match f, h2 with
 | .brk q, h2 => exact ⟨[], q, rfl, h2.1, h2.2, by simp, CmOK_nil, fun _ h => by cases h⟩
 | .ret v, h2 => exact ⟨v.1, v.2, rfl, h2.1, h2.2.1, h2.2.2.1, h2.2.2.2.1, h2.2.2.2.2⟩
end Go.G
