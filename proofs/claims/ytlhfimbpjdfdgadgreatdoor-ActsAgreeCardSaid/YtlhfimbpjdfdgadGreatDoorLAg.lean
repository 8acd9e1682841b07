/- LAg: ActsAgree's law: merged both ways, read back, counted. In plain Lean, no program in sight. -/
import Derived.Test.YtlhfimbpjdfdgadGreatDoorLAz
import Derived.Test.YtlhfimbpjdfdgadGreatDoorLMg
import Derived.Test.YtlhfimbpjdfdgadGreatDoorLYc
import Derived.Test.YtlhfimbpjdfdgadGreatDoorLR1f
namespace Go.G
open Go Go.J
set_option linter.unusedSimpArgs false
set_option linter.unusedVariables false
theorem ConcatA (gs : List (List TAct)) (h : (List.flatten gs).length ≤ 1000000000) : m_slices_Concat_api_Act_api_Act gs = some (List.flatten gs) := by
 have k1 : ∀ (l : List (List TAct)) (i : Nat) (u : Int), 0 ≤ u → u + ((List.flatten l).length : Int) ≤ 10000000000 → rangeM m_slices_Concat_api_Act_api_Act_l1 i l u = some (.brk (u + ((List.flatten l).length : Int))) := by
  intro l
  induction l with
  | nil => intro i u _ _; simp
  | cons g l ih =>
   intro i u hu hb
   simp only [List.flatten_cons, List.length_append, Int.natCast_add] at hb
   have e : m_slices_Concat_api_Act_api_Act_l1 i g u = some (.nxt (u + (g.length : Int))) := by
    unfold m_slices_Concat_api_Act_api_Act_l1
    rw [w64_id (by omega), decide_eq_false (by omega), ifB_false]
   rw [rangeM_cons, e, Option.bind_some, run_nxt, ih (i + 1) _ (by omega) (by omega)]
   simp only [List.flatten_cons, List.length_append, Int.natCast_add, Int.add_assoc]
 have k2 : ∀ (l : List (List TAct)) (i : Nat) (u : List TAct), u.length + (List.flatten l).length ≤ 10000000000 → rangeM m_slices_Concat_api_Act_api_Act_l2 i l u = some (.brk (u ++ List.flatten l)) := by
  intro l
  induction l with
  | nil => intro i u _; simp
  | cons g l ih =>
   intro i u hb
   simp only [List.flatten_cons, List.length_append] at hb
   have e : m_slices_Concat_api_Act_api_Act_l2 i g u = some (.nxt (u ++ g)) := by
    unfold m_slices_Concat_api_Act_api_Act_l2
    rw [appM_of (by omega) (by omega)]; rfl
   rw [rangeM_cons, e, Option.bind_some, run_nxt, ih (i + 1) _ (by rw [List.length_append]; omega)]
   simp
 unfold m_slices_Concat_api_Act_api_Act
 rw [k1 gs 0 0 (Int.le_refl _) (by omega), Option.bind_some, fin_brk, Int.zero_add]
 have hg : m_slices_Grow_api_Act_api_Act__nil ((List.flatten gs).length : Int) = some [] := by
  unfold m_slices_Grow_api_Act_api_Act__nil
  rw [decide_eq_false (by omega), ifB_false, show w64 (0 - 0) = 0 from rfl, w64_id (by omega)]
  by_cases h0 : ((List.flatten gs).length : Int) - 0 > 0
  ·have hgr : growM 112 (((List.flatten gs).length : Int) - 0) = some () := by
    unfold growM
    rw [if_pos ⟨by omega, by omega, by unfold maxLen; omega⟩]
   rw [decide_eq_true h0, ifB_true, hgr]
   rfl
  ·rw [decide_eq_false h0, ifB_false]
 rw [hg, Option.bind_some, k2 gs 0 [] (by rw [List.length_nil]; omega), List.nil_append]
 rfl
theorem sortC (u : List TAct) (h : u.length ≤ 12) (hnd : (u.map own).Nodup) : ∃ m, m_slices_SortFunc_api_Act_api_Act__club_compare u = some m ∧ m.Perm u ∧ m.Pairwise RA := by
 obtain ⟨m, h1, h2, h3⟩ := isA u (by omega) hnd
 refine ⟨m, ?_, h2, h3⟩
 have e0 : ∀ (v : List TAct) a b, m_slices_insertionSortCmpFunc_api_Act__club_compare v a b = isM m_club_compare v a b := fun _ _ _ => rfl
 unfold m_slices_SortFunc_api_Act_api_Act__club_compare m_bits_Len m_bits_Len64
 rw [show IntKind.wrap .u64 (u.length : Int) = u.length by rw [IntKind.wrap_u64]; omega, if_pos (by omega)]
 simp only [Option.bind_some]
 unfold m_slices_pdqsortCmpFunc_api_Act__club_compare
 have h3 : ∀ k, m_slices_pdqsortCmpFunc_api_Act__club_compare_l1 u 0 (u.length : Int) k () = some (.ret m) := fun k => by
  unfold m_slices_pdqsortCmpFunc_api_Act__club_compare_l1
  rw [w64_id (by omega), decide_eq_true (by omega), ifB_true, e0, h1]; rfl
 rw [loopM_step (h3 _)]; rfl
structure MI (pre : List TAct) (s : (List (Tclub_own × TAct)) × (List TAct)) : Prop where
 at_ : ∀ a ∈ s.2, lkM s.1 (own a) = some a
 no : ∀ k, (∀ a ∈ s.2, own a ≠ k) → lkM s.1 k = none
 nd : (s.2.map own).Nodup
 mem : ∀ a, a ∈ s.2 ↔ a ∈ pre
theorem own_inj {x : List TAct} (h : (x.map own).Nodup) : ∀ a ∈ x, ∀ b ∈ x, own a = own b → a = b := by
 induction x with
 | nil => intro a ha; cases ha
 | cons y t ih =>
  rw [List.map_cons, List.nodup_cons] at h
  intro a ha b hb e
  rcases List.mem_cons.1 ha with ea | ha'
  ·rcases List.mem_cons.1 hb with eb | hb'
   ·rw [ea, eb]
   ·exact (h.1 (by rw [← ea, e]; exact List.mem_map.2 ⟨b, hb', rfl⟩)).elim
  ·rcases List.mem_cons.1 hb with eb | hb'
   ·exact (h.1 (by rw [← eb, ← e]; exact List.mem_map.2 ⟨a, ha', rfl⟩)).elim
   ·exact ih h.2 a ha' b hb' e
theorem nd_of {l : List TAct} (h : (l.map own).Nodup) : l.Nodup := by
 rw [List.Nodup, List.pairwise_map] at h
 exact h.imp fun {a b} hab e => hab (congrArg own e)
theorem merge_step {x : List TAct} (hx : (x.map own).Nodup) (hl : x.length ≤ 1000) (pre : List TAct) (hp : ∀ a ∈ pre, a ∈ x) (y : TAct) (hy : y ∈ x) (i : Nat) (s : (List (Tclub_own × TAct)) × (List TAct)) (h : MI pre s) : ∃ s', m_club_Merge_l2 i y s = some (.nxt s') ∧ MI (pre ++ [y]) s' := by
 obtain ⟨seen, out⟩ := s
 obtain ⟨h1, h2, h3, h4⟩ := h
 simp only at h1 h2 h3 h4
 have hout : ∀ a ∈ out, a ∈ x := fun a ha => hp a ((h4 a).1 ha)
 have hol : out.length ≤ 1000 := by
  have hnd : out.Nodup := nd_of h3
  have := hnd.length_le_of_subset hout
  omega
 unfold m_club_Merge_l2
 rw [show Tclub_own.mk y.Site y.No = own y from rfl]
 by_cases hm : y ∈ out
 ·have e := h1 y hm
  simp only
  rw [hasM_of e, Bool.not_true, ifB_false, e]
  simp only [Option.getD_some]
  rw [decide_eq_true trivial, Bool.not_true, ifB_false]
  refine ⟨(seen, out), rfl, h1, h2, h3, fun a => ?_⟩
  rw [List.mem_append, List.mem_singleton]
  exact ⟨fun g => .inl ((h4 a).1 g), fun g => g.elim (fun g => (h4 a).2 g) (fun g => g ▸ hm)⟩
 ·have hne : ∀ a ∈ out, own a ≠ own y := fun a ha e => hm (own_inj hx a (hout a ha) y hy e ▸ ha)
  have e := h2 (own y) hne
  simp only
  rw [show hasM seen (own y) = false by rw [lkM_has, e]; rfl, Bool.not_false, ifB_true, appM_of (by simp; omega) (by omega), Option.bind_some]
  refine ⟨_, rfl, fun a ha => ?_, fun k hk => ?_, ?_, fun a => ?_⟩
  ·simp only at ha ⊢
   rw [lkM_put]
   rcases List.mem_append.1 ha with g | g
   ·rw [if_neg (hne a g)]; exact h1 a g
   ·rw [List.mem_singleton.1 g, if_pos rfl]
  ·simp only at hk ⊢
   rw [lkM_put, if_neg (fun e => hk y (by simp) e.symm)]
   exact h2 k fun a ha => hk a (by simp [ha])
  ·simp only
   rw [List.map_append, List.nodup_append]
   refine ⟨h3, by simp, fun u hu v hv e => ?_⟩
   obtain ⟨a, ha, rfl⟩ := List.mem_map.1 hu
   simp only [List.map_cons, List.map_nil, List.mem_singleton] at hv
   exact hne a ha (e.trans hv)
  ·simp only
   rw [List.mem_append, List.mem_append, h4]
theorem Merge_is {x p q : List TAct} (hx : ActsOK x) (hl : x.length ≤ 12) (hp : p.Sublist x) (hq : q.Sublist x) (hpq : ∀ a ∈ x, a ∈ p ∨ a ∈ q) : m_club_Merge p q = some (x, 0) := by
 have hop := hx.sub hp
 have hoq := hx.sub hq
 have hpl := hp.length_le
 have hql := hq.length_le
 have s1 : rangeM m_club_Merge_l1 0 [p, q] () = some (.brk ()) := by
  have k : ∀ (i : Nat) (l : List TAct), ActsOK l → m_club_Merge_l1 i l () = some (.nxt ()) := fun i l h => by
   unfold m_club_Merge_l1
   rw [CheckActs_spec, (actsF_zero l).2 h]; rfl
  rw [rangeM_cons, k 0 p hop, Option.bind_some, run_nxt, rangeM_cons, k 1 q hoq]; rfl
 have hpx : ∀ a ∈ p ++ q, a ∈ x := fun a ha => by
  rcases List.mem_append.1 ha with g | g
  ·exact hp.subset g
  ·exact hq.subset g
 obtain ⟨⟨seen, out⟩, g1, g2⟩ := rangeM_invx m_club_Merge_l2 (p ++ q) (fun i s => MI ((p ++ q).take i) s) (by
  intro i y s hy hI
  obtain ⟨s', k1, k2⟩ := merge_step hx.nd (by omega) ((p ++ q).take i) (fun a ha => hpx a (List.take_subset _ _ ha)) y (hpx y (List.mem_of_getElem? hy)) i s hI
  refine ⟨s', k1, ?_⟩
  rw [List.take_add_one, hy]; exact k2) ([], []) ⟨by simp, fun k _ => rfl, by simp, by simp⟩
 rw [List.take_length] at g2
 obtain ⟨m1, m2, m3, m4⟩ := g2
 simp only at m3 m4
 have hon : out.Nodup := nd_of m3
 have hol : out.length ≤ 12 := Nat.le_trans (hon.length_le_of_subset fun a ha => hpx a ((m4 a).1 ha)) hl
 obtain ⟨m, k1, k2, k3⟩ := sortC out hol m3
 have hm : m = x := sorted_ext m x k3 (ord_RA hx.ord) fun z => by
  rw [k2.mem_iff, m4, List.mem_append]
  exact ⟨fun g => g.elim (fun g => hp.subset g) (fun g => hq.subset g), fun g => hpq z g⟩
 unfold m_club_Merge
 rw [s1, Option.bind_some, fin_brk, ConcatA [p, q] (by simp; omega), Option.bind_some]
 rw [show List.flatten [p, q] = p ++ q by simp, g1, Option.bind_some, fin_brk]
 simp only
 rw [decide_eq_false (by omega), ifB_false, k1, Option.bind_some, hm]
theorem parts_spec (L : List Int) {pos : Int} (x : List TAct) (hx : x.length ≤ 1000) (hp : 0 ≤ pos) (hp' : pos ≤ 100000000) : ∃ p q r, m_gleekeep2_parts_api_Act L pos x = some (p, q, r) ∧ p.Sublist x ∧ q.Sublist x ∧ ∀ a ∈ x, a ∈ p ∨ a ∈ q := by
 unfold m_gleekeep2_parts_api_Act
 obtain ⟨⟨r, p, q⟩, g1, g2, g3, g4, g5, g6⟩ := rangeM_invx (m_gleekeep2_parts_api_Act_l1 L) x (fun i s => s.2.1.Sublist (x.take i) ∧ s.2.2.Sublist (x.take i) ∧ (∀ a ∈ x.take i, a ∈ s.2.1 ∨ a ∈ s.2.2) ∧ 0 ≤ s.1 ∧ s.1 ≤ pos + i) (by
  rintro i a ⟨r, p, q⟩ ha ⟨h1, h2, h3, h4, h5⟩
  have hi := (List.getElem?_eq_some_iff.1 ha).1
  simp only at h1 h2 h3 h4 h5
  have hpl := h1.length_le
  have hql := h2.length_le
  rw [List.length_take] at hpl hql
  have et : x.take (i + 1) = x.take i ++ [a] := by rw [List.take_add_one, ha]; rfl
  obtain ⟨v, k1, k2, k3⟩ := Next_spec L (p := r) (n := 3) h4 (by omega) (by omega)
  unfold m_gleekeep2_parts_api_Act_l1
  simp only
  have a1 : appM 112 p [a] = some (p ++ [a]) := appM_of (by simp; omega) (by omega)
  have a2 : appM 112 q [a] = some (q ++ [a]) := appM_of (by simp; omega) (by omega)
  have b1 : (p ++ [a]).Sublist (x.take i ++ [a]) := h1.append (List.Sublist.refl _)
  have b2 : (q ++ [a]).Sublist (x.take i ++ [a]) := h2.append (List.Sublist.refl _)
  have c1 : p.Sublist (x.take i ++ [a]) := h1.trans (List.sublist_append_left _ _)
  have c2 : q.Sublist (x.take i ++ [a]) := h2.trans (List.sublist_append_left _ _)
  rw [k1, Option.bind_some]
  simp only
  rw [et]
  cases (v == 0)
  ·cases (v == 1)
   ·simp only [ifB_false, a1, a2, Option.bind_some]
    refine ⟨_, rfl, b1, b2, fun z hz => ?_, by simp only; omega, by simp only; omega⟩
    rcases List.mem_append.1 hz with g | g
    ·rcases h3 z g with g | g
     ·exact .inl (List.mem_append_left _ g)
     ·exact .inr (List.mem_append_left _ g)
    ·exact .inl (List.mem_append_right _ g)
   ·simp only [ifB_false, ifB_true, a2, Option.bind_some]
    refine ⟨_, rfl, c1, b2, fun z hz => ?_, by simp only; omega, by simp only; omega⟩
    rcases List.mem_append.1 hz with g | g
    ·rcases h3 z g with g | g
     ·exact .inl g
     ·exact .inr (List.mem_append_left _ g)
    ·exact .inr (List.mem_append_right _ g)
  ·simp only [ifB_true, a1, Option.bind_some]
   refine ⟨_, rfl, b1, c2, fun z hz => ?_, by simp only; omega, by simp only; omega⟩
   rcases List.mem_append.1 hz with g | g
   ·rcases h3 z g with g | g
    ·exact .inl (List.mem_append_left _ g)
    ·exact .inr g
   ·exact .inl (List.mem_append_right _ g)) (pos, [], []) ⟨by simp, by simp, by simp, hp, by simp⟩
 rw [List.take_length] at g2 g3 g4
 rw [g1, Option.bind_some, fin_brk]
 exact ⟨p, q, r, rfl, g2, g3, g4⟩
theorem und_no (at_ : Int) : ∀ (t : List TAct) (k : Tclub_own), (∀ x ∈ t, x.Kind ≠ 7) → und at_ t k = false := by
 intro t
 induction t with
 | nil => intro k _; rfl
 | cons x t ih =>
  intro k h
  rw [und, ih _ fun y hy => h y (List.mem_cons_of_mem _ hy), ih _ fun y hy => h y (List.mem_cons_of_mem _ hy), show (x.Kind == 7) = false by simpa using h x (List.mem_cons_self ..)]
  simp
theorem count_loop (y5 : Int × Int) : ∀ (t : List TAct) (i j : Nat) (u : Int), (∀ x ∈ t, x.Kind ≠ 7) → 0 ≤ u → u + t.length ≤ 1000000 → rangeM (m_gleekeep2_ActsAgree_l2 y5) i t u = some (.brk (u + (cntIx y5.1 j t).length)) := by
 intro t
 induction t with
 | nil => intro i j u _ _ _; simp [cntIx]
 | cons x t ih =>
  intro i j u h hu hl
  simp only [List.length_cons] at hl
  have h7 := fun y hy => h y (List.mem_cons_of_mem x hy)
  have hc : cnt y5.1 x t = decide (x.At ≤ y5.1) := by
   unfold cnt
   rw [und_no _ _ _ h7]; simp
  have hst : m_gleekeep2_ActsAgree_l2 y5 i x u = some (.nxt (bif decide (x.At ≤ y5.1) then u + 1 else u)) := by
   unfold m_gleekeep2_ActsAgree_l2
   cases decide (x.At ≤ y5.1)
   ·rfl
   ·rw [ifB_true, w64_id (by omega)]; rfl
  rw [rangeM_cons, hst, Option.bind_some, run_nxt]
  unfold cntIx
  rw [hc]
  cases decide (x.At ≤ y5.1)
  ·rw [cond_false, ih (i + 1) (j + 1) u h7 hu (by omega)]; simp
  ·rw [cond_true, ih (i + 1) (j + 1) (u + 1) h7 (by omega) (by omega)]
   simp only [cond_true, List.length_append, List.length_cons, List.length_nil]
   congr 2
   omega
theorem ActsAgree_true (L : List Int) : m_gleekeep2_ActsAgree L = some true := by
 unfold m_gleekeep2_ActsAgree
 obtain ⟨n, h1, hn1, hn2⟩ := Range_spec L (p := 0) (a := 0) (b := 12) (by omega) (by omega) (by omega) (by omega) (by omega)
 rw [h1, Option.bind_some]
 simp only
 obtain ⟨x, q0, h2, hq1, hq2, hok, hlen, hx⟩ := RightActs_spec L (p := 0 + 1) (n := n) (by omega) (by omega) hn1 (by omega)
 rw [h2, Option.bind_some]
 simp only
 obtain ⟨a, h3, ha1, ha2⟩ := Range_spec L (p := q0) (a := 0) (b := 7776000000) (by omega) (by omega) (by omega) (by omega) (by omega)
 rw [h3, Option.bind_some]
 simp only
 obtain ⟨p, q, r, h4, hp, hq, hpq⟩ := parts_spec L (pos := q0 + 1) x (by omega) (by omega) (by omega)
 rw [h4, Option.bind_some]
 simp only
 rw [Merge_is hok (by omega) hp hq hpq, Option.bind_some, Merge_is hok (by omega) hq hp (fun z hz => (hpq z hz).symm), Option.bind_some, Text_spec hok (by omega), Option.bind_some]
 simp only
 rw [Read_spec, read_back hok (by omega), Option.bind_some]
 simp only
 rw [show m_gleekeep2_errs [0, 0, 0, 0] = some 0 by kernel_rfl, Option.bind_some, show ((0 : Int) != 0) = false from rfl, ifB_false, EqualA]
 simp only [Option.bind_some, Bool.not_true, ifB_false, fin_inl]
 obtain ⟨y, k1, k2⟩ := rangeM_invx m_gleekeep2_ActsAgree_l1 x (fun i u => u = (x.take i).filter fun d => decide (d.Kind ≠ 7)) (by
  rintro i d u hd rfl
  have hi := (List.getElem?_eq_some_iff.1 hd).1
  have hfl : ((x.take i).filter fun d => decide (d.Kind ≠ 7)).length ≤ (x.take i).length := List.length_filter_le _ _
  rw [List.length_take] at hfl
  unfold m_gleekeep2_ActsAgree_l1
  rw [List.take_add_one, hd, List.filter_append]
  by_cases h7 : d.Kind = 7
  ·rw [show (d.Kind != 7) = false by simp [h7], ifB_false]
   exact ⟨_, rfl, by simp [h7]⟩
  ·rw [show (d.Kind != 7) = true by simpa using h7, ifB_true, appM_of (by simp only [List.length_cons, List.length_nil]; omega) (by omega), Option.bind_some]
   exact ⟨_, rfl, by simp [h7]⟩) [] rfl
 rw [List.take_length] at k2
 have hoky : ActsOK y := hok.sub (by rw [k2]; exact List.filter_sublist)
 have hy7 : ∀ d ∈ y, d.Kind ≠ 7 := fun d hd => by
  rw [k2] at hd
  exact of_decide_eq_true (List.mem_filter.1 hd).2
 have hyl := hoky.len
 have hat : isAt a = true := by unfold isAt inR; exact decide_eq_true (by omega)
 rw [k1, Option.bind_some, fin_brk, Counting_spec, if_pos (askF_of hoky hat), Option.bind_some]
 rw [count_loop (a, q0 + 1) y 0 0 0 hy7 (by omega) (by omega), Option.bind_some, fin_brk]
 simp only
 rw [show ((0 : Int) == 0) = true from rfl, ifB_true, show (((cntIx a 0 y).length : Int) == 0 + ((cntIx a 0 y).length : Int)) = true by simp, ifB_true, ready_true]; rfl
end Go.G
