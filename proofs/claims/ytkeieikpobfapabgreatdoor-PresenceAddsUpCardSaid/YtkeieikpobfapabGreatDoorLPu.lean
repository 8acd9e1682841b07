/- LPu: PresenceAddsUp. In plain Lean, no program in sight. -/
import Derived.Test.YtkeieikpobfapabGreatDoorLSj
import Derived.Test.YtkeieikpobfapabGreatDoorLR1g
namespace Go.G
open Go Go.J
set_option linter.unusedSimpArgs false
set_option linter.unusedVariables false
theorem cm_parts {c : List TCame} (h : CmOK c) : c.Pairwise RC ∧ ∀ x ∈ c, isMo x.At = true ∧ isKey x.Singer = true := by
 have hall : ∀ (i : Nat) (hi : i < c.length), isMo c[i].At = true ∧ isKey c[i].Singer = true ∧ (∀ (h0 : 0 < i), RC (c[i - 1]'(by omega)) c[i]) := by
  intro i hi
  have := h.2 i c[i] (List.getElem?_eq_getElem hi)
  unfold cmF at this
  obtain ⟨k1, this⟩ := cF' this (by decide)
  obtain ⟨k2, this⟩ := cF' this (by decide)
  obtain ⟨k3, -⟩ := cF' this (by decide)
  refine ⟨by simpa using k1, by simpa using k2, fun h0 => ?_⟩
  rw [if_neg (by omega), List.getElem?_eq_getElem (by omega)] at k3
  simp only [decide_eq_false_iff_not] at k3
  exact (cmpC_lt _ _).1 (by omega)
 constructor
 ·have key : ∀ (n i : Nat) (hi : i + n + 1 < c.length), RC (c[i]'(by omega)) c[i + n + 1] := by
   intro n
   induction n with
   | zero =>
    intro i hi
    have := (hall (i + 1) hi).2.2 (by omega)
    simpa using this
   | succ n ih =>
    intro i hi
    refine RC_trans (ih i (by omega)) ?_
    have := (hall (i + n + 1 + 1) hi).2.2 (by omega)
    simp only [Nat.add_sub_cancel] at this
    exact this
  rw [List.pairwise_iff_getElem]
  intro i j hi hj hij
  have := key (j - i - 1) i (by omega)
  have e : i + (j - i - 1) + 1 = j := by omega
  simp only [e] at this
  exact this
 ·intro x hx
  obtain ⟨i, hi, rfl⟩ := List.getElem_of_mem hx
  exact ⟨(hall i hi).1, (hall i hi).2.1⟩
theorem cm_of {c : List TCame} (hl : c.length ≤ 5000) (hp : c.Pairwise RC) (hk : ∀ x ∈ c, isMo x.At = true ∧ isKey x.Singer = true) : CmOK c := by
 refine ⟨hl, fun i x hx => ?_⟩
 obtain ⟨hi, rfl⟩ := List.getElem?_eq_some_iff.1 hx
 have h1 := hk c[i] (List.getElem_mem ..)
 unfold cmF
 rw [h1.1, h1.2, Bool.not_true, cond_false, cond_false]
 by_cases h0 : i = 0
 ·rw [if_pos h0]; rfl
 ·rw [if_neg h0, List.getElem?_eq_getElem (by omega)]
  simp only
  have := List.pairwise_iff_getElem.1 hp (i - 1) i (by omega) hi (by omega)
  rw [decide_eq_false (by have := (cmpC_lt _ _).2 this; omega)]; rfl
theorem RC_asym {a b : TCame} (h : RC a b) : ¬ RC b a := fun h' => RC_irr a (RC_trans h h')
theorem srtC_pw (u : List TCame) : (srtC u).Pairwise fun x y => ¬ RC y x := by
 have h := List.pairwise_mergeSort (le := fun x y : TCame => !decide (cmpC y x < 0)) (fun a b c h1 h2 => by
  rw [Bool.not_eq_true', decide_eq_false_iff_not, cmpC_lt] at *
  intro h3
  rcases RC_n h1 with h4 | h4
  ·exact h2 (RC_trans h3 h4)
  ·subst h4; exact h2 h3) (fun a b => by
  by_cases h : RC b a
  ·rw [decide_eq_true ((cmpC_lt b a).2 h), decide_eq_false (fun g => RC_asym h ((cmpC_lt a b).1 g))]; rfl
  ·rw [decide_eq_false (fun g => h ((cmpC_lt b a).1 g))]; rfl) u
 exact h.imp fun {a b} hab => by
  rw [Bool.not_eq_true', decide_eq_false_iff_not, cmpC_lt] at hab
  exact hab
theorem ddGo_pw : ∀ (t : List TCame) (p : TCame), (p :: t).Pairwise (fun x y => ¬ RC y x) → (p :: ddGo p t).Pairwise RC := by
 intro t
 induction t with
 | nil => intro p _; exact List.pairwise_singleton _ _
 | cons y t ih =>
  intro p h
  have h1 := List.pairwise_cons.1 h
  have h2 := ih y h1.2
  rw [ddGo]
  by_cases e : y = p
  ·rw [if_pos e, e]; rw [e] at h2; exact h2
  ·rw [if_neg e]
   have hpy : RC p y := by
    rcases RC_n (h1.1 y (List.mem_cons_self ..)) with g | g
    ·exact g
    ·exact absurd g e
   refine List.pairwise_cons.2 ⟨fun z hz => ?_, h2⟩
   rcases List.mem_cons.1 hz with g | g
   ·rw [g]; exact hpy
   ·exact RC_trans hpy ((List.pairwise_cons.1 h2).1 z g)
theorem dd_pw {l : List TCame} (h : l.Pairwise fun x y => ¬ RC y x) : (dd l).Pairwise RC := by
 cases l with
 | nil => exact List.Pairwise.nil
 | cons x t => exact ddGo_pw t x h
theorem RC_nodup {l : List TCame} (h : l.Pairwise RC) : l.Nodup := by
 rw [List.nodup_iff_pairwise_ne]
 exact h.imp fun {a b} hab (e : a = b) => by rw [e] at hab; exact RC_irr _ hab
theorem merge_is {c u : List TCame} (hc : c.Pairwise RC) (hm : ∀ x, x ∈ u ↔ x ∈ c) : dd (srtC u) = c := by
 have h1 := dd_pw (srtC_pw u)
 have h2 : (dd (srtC u)).Perm c := (List.perm_ext_iff_of_nodup (RC_nodup h1) (RC_nodup hc)).2 fun x => by
  rw [mem_dd, (srtC_perm u).mem_iff, hm]
 exact List.Perm.eq_of_pairwise (fun x y _ _ k1 k2 => (RC_asym k1 k2).elim) h1 hc h2
theorem parts_spec (L : List Int) {p : Int} (hp : 0 ≤ p) (hp' : p ≤ 900000) (c : List TCame) (hl : c.length ≤ 1000) :
  ∃ a b q, m_gleekeep2_parts_api_Came L p c = some (a, b, q) ∧ a.Sublist c ∧ b.Sublist c ∧ ∀ x, x ∈ a ++ b ↔ x ∈ c := by
 unfold m_gleekeep2_parts_api_Came
 obtain ⟨s, h1, h2⟩ := rangeM_invx (m_gleekeep2_parts_api_Came_l1 L) c (fun n s => (0 ≤ s.1 ∧ s.1 ≤ p + (n : Int)) ∧ s.2.1.Sublist (c.take n) ∧ s.2.2.Sublist (c.take n) ∧ ∀ x, x ∈ s.2.1 ++ s.2.2 ↔ x ∈ c.take n) (by
  intro i x s hx hI
  have hi := (List.getElem?_eq_some_iff.1 hx).1
  have htk : c.take (i + 1) = c.take i ++ [x] := by rw [List.take_add_one, hx]; rfl
  obtain ⟨⟨i1, i2⟩, i3, i4, i5⟩ := hI
  have hl1 := i3.length_le
  have hl2 := i4.length_le
  rw [List.length_take] at hl1 hl2
  unfold m_gleekeep2_parts_api_Came_l1
  obtain ⟨r, g1, g2, g3⟩ := Next_spec L (p := s.1) (n := 3) i1 (by omega) (by omega)
  rw [g1, Option.bind_some]
  simp only
  have ha : appM 32 s.2.1 [x] = some (s.2.1 ++ [x]) := appM_of (by rw [List.length_singleton]; omega) (by omega)
  have hb : appM 32 s.2.2 [x] = some (s.2.2 ++ [x]) := appM_of (by rw [List.length_singleton]; omega) (by omega)
  have s1 : (s.2.1 ++ [x]).Sublist (c.take i ++ [x]) := i3.append (List.Sublist.refl _)
  have s2 : (s.2.2 ++ [x]).Sublist (c.take i ++ [x]) := i4.append (List.Sublist.refl _)
  have s3 : s.2.1.Sublist (c.take i ++ [x]) := i3.trans (List.sublist_append_left _ _)
  have s4 : s.2.2.Sublist (c.take i ++ [x]) := i4.trans (List.sublist_append_left _ _)
  rw [ha, hb]
  by_cases e0 : r = 0
  ·rw [e0]
   refine ⟨_, rfl, ⟨by simp only; omega, by simp only; omega⟩, by rw [htk]; exact s1, by rw [htk]; exact s4, fun y => ?_⟩
   have := i5 y
   simp only [List.mem_append, htk, List.mem_singleton] at this ⊢
   rw [← this]
   constructor
   ·rintro ((h | h) | h)
    ·exact .inl (.inl h)
    ·exact .inr h
    ·exact .inl (.inr h)
   ·rintro ((h | h) | h)
    ·exact .inl (.inl h)
    ·exact .inr h
    ·exact .inl (.inr h)
  ·rw [show (r == 0) = false by simpa using e0, ifB_false]
   by_cases e1 : r = 1
   ·rw [e1]
    refine ⟨_, rfl, ⟨by simp only; omega, by simp only; omega⟩, by rw [htk]; exact s3, by rw [htk]; exact s2, fun y => ?_⟩
    have := i5 y
    simp only [List.mem_append, htk, List.mem_singleton] at this ⊢
    rw [← this]
    constructor
    ·rintro (h | (h | h))
     ·exact .inl (.inl h)
     ·exact .inl (.inr h)
     ·exact .inr h
    ·rintro ((h | h) | h)
     ·exact .inl h
     ·exact .inr (.inl h)
     ·exact .inr (.inr h)
   ·rw [show (r == 1) = false by simpa using e1, ifB_false]
    refine ⟨_, rfl, ⟨by simp only; omega, by simp only; omega⟩, by rw [htk]; exact s1, by rw [htk]; exact s2, fun y => ?_⟩
    have := i5 y
    simp only [List.mem_append, htk, List.mem_singleton] at this ⊢
    rw [← this]
    constructor
    ·rintro ((h | h) | (h | h))
     ·exact .inl (.inl h)
     ·exact .inr h
     ·exact .inl (.inr h)
     ·exact .inr h
    ·rintro ((h | h) | h)
     ·exact .inl (.inl h)
     ·exact .inr (.inl h)
     ·exact .inl (.inr h)) (p, [], []) ⟨⟨by simpa using hp, by simp⟩, by simp, by simp, fun x => by simp⟩
 rw [List.take_length] at h2
 rw [h1]
 exact ⟨s.2.1, s.2.2, s.1, rfl, h2.2.1, h2.2.2.1, h2.2.2.2⟩
theorem w64_pred {i : Nat} (h : 0 < i) (h' : (i : Int) ≤ 1000000000) : w64 ((i : Int) - 1) = ((i - 1 : Nat) : Int) := by rw [w64_id (by omega)]; omega
theorem long_spec {c : List TCame} (hc : CmOK c) {a b : Int} (h : 0 ≤ a ∧ a ≤ b ∧ b ≤ 1000) : m_gleekeep2_PresenceAddsUp_1 ⟨a, b⟩ c = some (cntW (thB c annB) a b) := by
 obtain ⟨P, h3, h4⟩ := presences_spec hc
 have hq := h4.perm (List.Perm.refl (canonM P))
 have hR := hq.sep annB
 unfold m_gleekeep2_PresenceAddsUp_1
 have hP : m_rehearse_Present c (ByteArray.mk [97, 110, 110].toArray) ⟨a, b⟩ = some (((lkM (canonM P) annB).getD []).filterMap (clipW ⟨a, b⟩), 0) := by
  have hk : isKey annB = true := by kernel_rfl
  have hw : isWi ⟨a, b⟩ = true := by unfold isWi; rw [Bool.and_eq_true, decide_eq_true_eq, decide_eq_true_eq]; simp only; omega
  unfold m_rehearse_Present
  rw [Came_ok hc, Option.bind_some, show ((0 : Int) != 0) = false from rfl, ifB_false, show (ByteArray.mk [97, 110, 110].toArray) = annB from rfl, isKey_prog, hk, Option.bind_some, Bool.not_true, ifB_false, isWi_prog, hw, Option.bind_some, Bool.not_true, ifB_false, h3, Option.bind_some, within_spec _ _ (by have := hR.2; omega), Option.bind_some]
 rw [hP, Option.bind_some]
 have hsx := (clip_sep hR.1 ⟨a, b⟩).1
 have hlen := len_within ⟨a, b⟩ _ hR.1
 have hin : ∀ z ∈ ((lkM (canonM P) annB).getD []).filterMap (clipW ⟨a, b⟩), a ≤ z.From ∧ z.From < z.To ∧ z.To ≤ b := by
  intro z hz
  obtain ⟨w, _, hw⟩ := List.mem_filterMap.1 hz
  unfold clipW at hw
  split at hw
  ·cases hw; simp only at *; omega
  ·cases hw
 have hcv : cntW (covW ((lkM (canonM P) annB).getD [])) a b = cntW (thB c annB) a b := cntW_congr fun t h1 h2 => hq.cov annB t (by omega)
 have hle := cntW_le (p := covW ((lkM (canonM P) annB).getD [])) (a := a) (b := b) h.2.1
 have hRl : (((lkM (canonM P) annB).getD []).filterMap (clipW ⟨a, b⟩)).length ≤ 6000 := Nat.le_trans (List.length_filterMap_le _ _) hR.2
 generalize ((lkM (canonM P) annB).getD []).filterMap (clipW ⟨a, b⟩) = R at hsx hlen hin hRl
 simp only at hlen
 have key : ∀ (t : List TWindow) (i : Nat) (n : Int), R.drop i = t → 0 ≤ n → n + lenS t ≤ 1000 → rangeM (m_gleekeep2_PresenceAddsUp_1_l1 ⟨a, b⟩ (R, 0)) i t n = some (.brk (n + lenS t)) := by
  intro t
  induction t with
  | nil => intro i n _ _ _; simp [lenS]
  | cons x t ih =>
   intro i n hd hn hb
   obtain ⟨hx, ht⟩ := drop_cons hd
   have hi := (List.getElem?_eq_some_iff.1 hx).1
   have hxi := hin x (List.mem_of_getElem? hx)
   have hl : lenS (x :: t) = (x.To - x.From) + lenS t := rfl
   have hl0 : 0 ≤ lenS t := by
    have : ∀ t : List TWindow, (∀ z ∈ t, z ∈ R) → 0 ≤ lenS t := by
     intro t
     induction t with
     | nil => intro _; exact Int.le_refl _
     | cons y t ih =>
      intro hy
      have h1 := hin y (hy y (List.mem_cons_self ..))
      have h2 := ih fun z hz => hy z (List.mem_cons_of_mem _ hz)
      show 0 ≤ (y.To - y.From) + lenS t
      omega
    exact this t fun z hz => List.mem_of_mem_drop (i := i + 1) (by rw [ht]; exact hz)
   have hst : m_gleekeep2_PresenceAddsUp_1_l1 ⟨a, b⟩ (R, 0) i x n = some (.nxt (n + (x.To - x.From))) := by
    unfold m_gleekeep2_PresenceAddsUp_1_l1
    simp only
    rw [show ((0 : Int) != 0) = false from rfl, decide_eq_false (show ¬ x.From ≥ x.To by omega), decide_eq_false (show ¬ x.From < a by omega), decide_eq_false (show ¬ x.To > b by omega), w64_id (n := x.To - x.From) (by omega), w64_id (n := n + (x.To - x.From)) (by omega)]
    by_cases h0 : i = 0
    ·rw [decide_eq_false (show ¬ (i : Int) > 0 by omega)]
     simp only [ifB_false]
    ·have hg : R[i - 1]? = some (R[i - 1]'(by omega)) := List.getElem?_eq_getElem (by omega)
     have hsp := List.pairwise_iff_getElem.1 hsx.pw (i - 1) i (by omega) hi (by omega)
     have hri : R[i] = x := Option.some.inj (by rw [← hx]; exact (List.getElem?_eq_getElem hi).symm)
     rw [hri] at hsp
     rw [decide_eq_true (show (i : Int) > 0 by omega), getI_of (n := i - 1) (w64_pred (by omega) (by omega)) hg, Option.bind_some, decide_eq_false (show ¬ x.From ≤ (R[i - 1]'(by omega)).To by omega)]
     simp only [ifB_false, ifB_true]
   rw [rangeM_cons, hst, Option.bind_some, run_nxt, ih (i + 1) _ ht (by omega) (by omega), hl]
   congr 2; omega
 rw [key R 0 0 rfl (Int.le_refl _) (by rw [hlen]; omega), Option.bind_some, fin_brk, Int.zero_add, hlen, hcv]
theorem errsK (l : List Int) (h : ∀ x ∈ l, x = 0) : m_gleekeep2_errs l = some 0 := by
 unfold m_gleekeep2_errs
 obtain ⟨s, h1, -⟩ := rangeM_invx m_gleekeep2_errs_l1 l (fun _ _ => True) (fun i x s hx _ => ⟨(), by
  unfold m_gleekeep2_errs_l1
  rw [h x (List.mem_of_getElem? hx)]; rfl, trivial⟩) () trivial
 rw [h1]; rfl
theorem PresenceAddsUp_true (L : List Int) : m_gleekeep2_PresenceAddsUp L = some true := by
 unfold m_gleekeep2_PresenceAddsUp
 obtain ⟨m, a1, b1, c1⟩ := Range_spec L (p := 0) (a := 0) (b := 12) (by omega) (by omega) (by omega) (by omega) (by omega)
 obtain ⟨c, q2, a2, b2, c2, d2, e2, f2⟩ := RightCames_spec L (p := 0 + 1) m.toNat (by omega) (by omega) (by omega)
 rw [show ((m.toNat : Nat) : Int) = m by omega] at a2
 obtain ⟨x, a3, b3, c3⟩ := Range_spec L (p := q2) (a := 0) (b := 60) b2 (by omega) (by omega) (by omega) (by omega)
 obtain ⟨y, a4, b4, c4⟩ := Range_spec L (p := q2 + 1) (a := 60) (b := 100) (by omega) (by omega) (by omega) (by omega) (by omega)
 obtain ⟨z, a5, b5, c5⟩ := Range_spec L (p := q2 + 1 + 1) (a := 100) (b := 200) (by omega) (by omega) (by omega) (by omega) (by omega)
 obtain ⟨pa, pb, q6, a6, b6, c6, d6⟩ := parts_spec L (p := q2 + 1 + 1 + 1) (by omega) (by omega) c (by omega)
 have hsp := cntW_split (thB c annB) (a := x) (b := y) (c := z) (by omega) (by omega)
 have n1 := cntW_nonneg (thB c annB) x y
 have n2 := cntW_nonneg (thB c annB) y z
 have n3 := cntW_le (p := thB c annB) (a := x) (b := y) (by omega)
 have n4 := cntW_le (p := thB c annB) (a := y) (b := z) (by omega)
 have hone : (cntW (thB c annB) x (x + 1) == 1) = thB c annB x := by
  cases ht : thB c annB x with
  | true => rw [cntW_all (by omega) fun t g1 g2 => by rw [show t = x by omega]; exact ht]; simp only [beq_iff_eq]; omega
  | false => rw [cntW_none fun t g1 g2 => by rw [show t = x by omega]; exact ht]; rfl
 have hCk := Came_ok e2
 have hmo : isMo x = true := by unfold isMo; rw [decide_eq_true_eq]; omega
 obtain ⟨v, t1, t2, -⟩ := There_P hCk (fun _ => e2) x
 have hz : errG [0, moG x] = 0 := by unfold moG; rw [hmo]; rfl
 rw [hz] at t1
 obtain ⟨v', k1, -, k3, -⟩ := ThereOf_spec c x e2.1
 have hv : v' = v := by rw [t2 hz] at k1; exact (Option.some.inj k1).symm
 subst hv
 have hcon : sameP v' annB = thB c annB x := by
  rw [Bool.eq_iff_iff, ← k3]
  unfold sameP
  rw [List.any_eq_true]
  exact ⟨fun ⟨z, h1, h2⟩ => (sameB_iff.1 h2) ▸ h1, fun h => ⟨annB, h, sameB_iff.2 rfl⟩⟩
 obtain ⟨hpw, hall⟩ := cm_parts e2
 have hla := b6.length_le
 have hlb := c6.length_le
 have hA := Came_ok (cm_of (by omega) (hpw.sublist b6) fun x hx => hall x (b6.subset hx))
 have hB := Came_ok (cm_of (by omega) (hpw.sublist c6) fun x hx => hall x (c6.subset hx))
 obtain ⟨-, m1, -⟩ := Merge_P hA hB (by omega) (fun x hx => f2 x ((d6 x).1 hx))
 obtain ⟨-, m2, -⟩ := Merge_P hB hA (by omega) (fun x hx => f2 x ((d6 x).1 (by rw [List.mem_append] at hx ⊢; exact hx.symm)))
 have m1 := m1 rfl
 have m2 := m2 rfl
 rw [merge_is hpw d6] at m1
 rw [merge_is hpw (fun x => by rw [← d6 x, List.mem_append, List.mem_append]; exact Or.comm)] at m2
 rw [a1, Option.bind_some]
 simp only
 rw [a2, Option.bind_some]
 simp only
 rw [a3, Option.bind_some]
 simp only
 rw [a4, Option.bind_some]
 simp only
 rw [a5, Option.bind_some]
 simp only
 rw [long_spec e2 ⟨b3, by omega, by omega⟩, Option.bind_some, long_spec e2 ⟨by omega, by omega, by omega⟩, Option.bind_some, long_spec e2 ⟨b3, by omega, by omega⟩, Option.bind_some, w64_id (by omega), hsp, bne_self_eq_false, ifB_false, t1, Option.bind_some, w64_id (n := x + 1) (by omega), long_spec e2 ⟨b3, by omega, by omega⟩, Option.bind_some, a6, Option.bind_some]
 simp only
 rw [m1, Option.bind_some, m2, Option.bind_some, errsK _ (by simp), Option.bind_some]
 simp only
 rw [show ((0 : Int) == 0) = true from rfl, ifB_true, Contains_s, Option.bind_some, show (ByteArray.mk [97, 110, 110].toArray) = annB from rfl, hcon, hone, beq_self_eq_true, ifB_true, EqCG, Option.bind_some, ifB_true, Option.bind_some, ifB_true, ready_true]; rfl
end Go.G
