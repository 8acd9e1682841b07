/- LB7: the law of a part that is played out. In plain Lean, no program in sight. -/
import Derived.Test.YtdeoejkgmeemaafGreatDoorLB6
import Derived.Test.YtdeoejkgmeemaafGreatDoorLR1
namespace Go.G
open Go Go.J
set_option linter.unusedSimpArgs false
def lk (bs : List TBar) (k : Int) : Int := match bs[k.toNat]? with | some x => lB x | none => 0
theorem sumL_app (a b : List TTone) : sumL (a ++ b) = sumL a + sumL b := by unfold sumL; rw [List.map_append, List.sum_append]
theorem inOrd_cons {gs : List (List TTone)} {j : Nat} (hj : j < gs.length) (ord : List Int) : inOrd gs ((j : Int) :: ord) = gs[j] ++ inOrd gs ord := by
  unfold inOrd
  rw [List.flatMap_cons, Int.toNat_natCast, List.getD_eq_getElem?_getD, List.getElem?_eq_getElem hj]; rfl
theorem inOrd_sum {bs : List TBar} {gs : List (List TTone)} (g4 : gs.map sumU = bs.map lB) : ∀ (ord : List Int), (∀ k ∈ ord, ∃ j : Nat, k = j ∧ ∃ x, bs[j]? = some x) → sumL (inOrd gs ord) = (ord.map (lk bs)).sum
  | [], _ => rfl
  | k :: ord, hm => by
    obtain ⟨j, rfl, x, hx⟩ := hm k (List.mem_cons_self ..)
    have hgl : gs.length = bs.length := by have := congrArg List.length g4; simpa using this
    have hjb := (List.getElem?_eq_some_iff.1 hx).1
    have hj : j < gs.length := by omega
    have e1 : sumL gs[j] = lB x := by
      have h1 : (gs.map sumU)[j]? = (bs.map lB)[j]? := by rw [g4]
      rw [List.getElem?_map, List.getElem?_map, hx, List.getElem?_eq_getElem hj] at h1
      exact Option.some.inj h1
    have e2 : lk bs (j : Int) = lB x := by unfold lk; rw [Int.toNat_natCast, hx]
    rw [inOrd_cons hj, sumL_app, inOrd_sum g4 ord (fun q hq => hm q (List.mem_cons_of_mem _ hq)), List.map_cons, List.sum_cons, e1, e2]
theorem Long_good {bs : List TBar} (hc : cB bs = 0) : m_piece_Long bs = some (lowF ((expand bs (gsB none 0 bs)).map (lk bs)).sum.toNat 192, 0) ∧ 0 ≤ ((expand bs (gsB none 0 bs)).map (lk bs)).sum ∧ ((expand bs (gsB none 0 bs)).map (lk bs)).sum ≤ 6144000 := by
  obtain ⟨hl, r, hg, -, -, ho⟩ := cB_zero hc
  have hb := goB_all bs _ r hg
  have key : ∀ (ord : List Int) (i : Nat) (u : Int), (∀ k ∈ ord, ∃ j : Nat, k = j ∧ ∃ x, bs[j]? = some x) → 0 ≤ u → u + 3072 * ord.length ≤ 1000000000 →
      rangeM (m_piece_Long_l1 bs) i ord u = some (.brk (u + (ord.map (lk bs)).sum)) ∧ 0 ≤ (ord.map (lk bs)).sum ∧ (ord.map (lk bs)).sum ≤ 3072 * ord.length := by
    intro ord
    induction ord with
    | nil => intro i u _ _ _; simp
    | cons k ord ih =>
      intro i u hm hu hb2
      obtain ⟨j, rfl, x, hx⟩ := hm k (List.mem_cons_self ..)
      obtain ⟨l1, l2, l3, -⟩ := long_spec (hb x (List.mem_of_getElem? hx))
      simp only [List.length_cons] at hb2
      have e2 : lk bs (j : Int) = lB x := by unfold lk; rw [Int.toNat_natCast, hx]
      have e1 : m_piece_Long_l1 bs i (j : Int) u = some (.nxt (u + lB x)) := by
        unfold m_piece_Long_l1
        rw [getI_of rfl hx, Option.bind_some, l1, Option.bind_some, w64_id (by omega)]
      obtain ⟨p1, p2, p3⟩ := ih (i + 1) (u + lB x) (fun q hq => hm q (List.mem_cons_of_mem _ hq)) (by omega) (by omega)
      rw [rangeM_cons, e1, Option.bind_some, run_nxt, p1, List.map_cons, List.sum_cons, e2, Int.add_assoc]
      exact ⟨rfl, by omega, by simp only [List.length_cons]; omega⟩
  obtain ⟨p1, p2, p3⟩ := key (expand bs (gsB none 0 bs)) 0 0 (expand_mem bs _) (Int.le_refl _) (by omega)
  have hlow := low_spec p2 (by omega)
  refine ⟨?_, p2, by omega⟩
  unfold m_piece_Long
  rw [CheckBars_spec bs (by omega), hc, Option.bind_some, bne_self_eq_false, ifB_false, played_spec hc, Option.bind_some, p1, Option.bind_some, fin_brk, Int.zero_add, hlow.1]
  rfl
theorem Concat_good (gs : List (List TTone)) (h : (List.flatten gs).length ≤ 2000) : m_slices_Concat_api_Tone_api_Tone gs = some (List.flatten gs) := by
  have k1 : ∀ (l : List (List TTone)) (i : Nat) (u : Int), 0 ≤ u → u + ((List.flatten l).length : Int) ≤ 100000 → rangeM m_slices_Concat_api_Tone_api_Tone_l1 i l u = some (.brk (u + ((List.flatten l).length : Int))) := by
    intro l
    induction l with
    | nil => intro i u _ _; simp
    | cons g l ih =>
      intro i u hu hb
      simp only [List.flatten_cons, List.length_append, Int.natCast_add] at hb
      have e : m_slices_Concat_api_Tone_api_Tone_l1 i g u = some (.nxt (u + (g.length : Int))) := by
        unfold m_slices_Concat_api_Tone_api_Tone_l1
        rw [w64_id (by omega), decide_eq_false (by omega), ifB_false]
      rw [rangeM_cons, e, Option.bind_some, run_nxt, ih (i + 1) _ (by omega) (by omega)]
      simp only [List.flatten_cons, List.length_append, Int.natCast_add, Int.add_assoc]
  have k2 : ∀ (l : List (List TTone)) (i : Nat) (u : List TTone), u.length + (List.flatten l).length ≤ 100000 → rangeM m_slices_Concat_api_Tone_api_Tone_l2 i l u = some (.brk (u ++ List.flatten l)) := by
    intro l
    induction l with
    | nil => intro i u _; simp
    | cons g l ih =>
      intro i u hb
      simp only [List.flatten_cons, List.length_append] at hb
      have e : m_slices_Concat_api_Tone_api_Tone_l2 i g u = some (.nxt (u ++ g)) := by
        unfold m_slices_Concat_api_Tone_api_Tone_l2
        rw [appM_of (by omega) (by omega)]; rfl
      rw [rangeM_cons, e, Option.bind_some, run_nxt, ih (i + 1) _ (by rw [List.length_append]; omega)]
      simp
  unfold m_slices_Concat_api_Tone_api_Tone
  rw [k1 gs 0 0 (Int.le_refl _) (by omega), Option.bind_some, fin_brk, Int.zero_add]
  have hg : m_slices_Grow_api_Tone_api_Tone__nil ((List.flatten gs).length : Int) = some [] := by
    unfold m_slices_Grow_api_Tone_api_Tone__nil
    rw [decide_eq_false (by omega), ifB_false, show w64 (0 - 0) = 0 from rfl, w64_id (by omega)]
    by_cases h0 : ((List.flatten gs).length : Int) - 0 > 0
    · have hgr : growM 48 (((List.flatten gs).length : Int) - 0) = some () := by
        unfold growM
        rw [if_pos ⟨by omega, by omega, by unfold maxLen; omega⟩]
      rw [decide_eq_true h0, ifB_true, hgr]
      rfl
    · rw [decide_eq_false h0, ifB_false]
  rw [hg, Option.bind_some, k2 gs 0 [] (by rw [List.length_nil]; omega), List.nil_append]
  rfl
theorem EqualT_refl (xs : List TTone) : m_slices_Equal_api_Tone_api_Tone xs xs = some true := by
  unfold m_slices_Equal_api_Tone_api_Tone
  have h : ((xs.length : Int) != (xs.length : Int)) = false := by simp
  rw [h, ifB_false]
  obtain ⟨s', h1, -⟩ := rangeM_invx (m_slices_Equal_api_Tone_api_Tone_l1 xs) xs (fun _ _ => True) (fun i x s hx _ => ⟨s, by
    unfold m_slices_Equal_api_Tone_api_Tone_l1
    rw [getI_of rfl hx, Option.bind_some]
    simp, trivial⟩) () trivial
  rw [h1]; rfl
/-- THE LAW: at every seed the answer is true. -/
theorem PlayedLasts_true (L : List Int) : m_gleekeep2_PlayedLasts L = some true := by
  unfold m_gleekeep2_PlayedLasts
  obtain ⟨bs, q, b1, b2, b3, b4, b5, hc⟩ := RightBars_right L
  obtain ⟨t, q2, t1, t2, t3, t4, hf, hm⟩ := TonesFor_right L (bs := bs) (p := q) b3 hc b4 (by omega)
  obtain ⟨hl, r, hg, -, -, ho⟩ := cB_zero hc
  have hb := goB_all bs _ r hg
  have hmem := expand_mem bs (gsB none 0 bs)
  have hlt := hf.len
  obtain ⟨gs, g1, g3, g4⟩ := inBars_good hb (by omega) hf
  have hgl : gs.length = bs.length := by have := congrArg List.length g4; simpa using this
  obtain ⟨p, p1, p2, p3, p4⟩ := playedTones_good hc hf g1 g3 g4
  obtain ⟨n1, n2, n3⟩ := Long_good hc
  have hsum := inOrd_sum g4 (expand bs (gsB none 0 bs)) hmem
  have hgm := flat_len (gs := gs) (n := 2000) (by rw [← g3]; exact hlt)
  have hO : m_piece_Order bs = some (expand bs (gsB none 0 bs), 0) := by
    unfold m_piece_Order
    rw [CheckBars_spec bs (by omega), hc, Option.bind_some, bne_self_eq_false, ifB_false, played_spec hc]; rfl
  have hP : m_piece_Played bs t = some (p, 0) := by
    unfold m_piece_Played
    rw [CheckTones_zero hc hf, Option.bind_some, bne_self_eq_false, ifB_false, p1]; rfl
  have hI : m_piece_InBars bs t = some (gs, 0) := by
    unfold m_piece_InBars
    rw [CheckTones_zero hc hf, Option.bind_some, bne_self_eq_false, ifB_false, g1]; rfl
  have hJ : m_piece_Joined bs t = some (Jn t, 0) := by
    unfold m_piece_Joined
    rw [CheckTones_zero hc hf, Option.bind_some, bne_self_eq_false, ifB_false, Joined_spec hf.goods hlt hf.ch]; rfl
  have uT1 : ∀ x ∈ t, UOk x.Long 3072 := fun x hx => UOk.of_good (hf.goods x hx)
  have uI : ∀ x ∈ inOrd gs (expand bs (gsB none 0 bs)), UOk x.Long 3072 := fun x hx => by
    unfold inOrd at hx
    obtain ⟨k, hk, hxk⟩ := List.mem_flatMap.1 hx
    refine uT1 x ?_
    rw [g3]
    obtain ⟨j, rfl, y, hy⟩ := hmem k hk
    have hj : j < gs.length := by rw [hgl]; exact (List.getElem?_eq_some_iff.1 hy).1
    rw [Int.toNat_natCast, List.getD_eq_getElem?_getD, List.getElem?_eq_getElem hj] at hxk
    exact List.mem_flatten.2 ⟨_, List.getElem_mem hj, hxk⟩
  have sP := sum_spec p 3072 (by omega) (by omega) (UOk_longs p3 uI) p4
  rw [sumL_longs p3, hsum] at sP
  have sJ := sum_spec (Jn t) (3072 * t.length) (by omega) (by omega) (Jn_ok hf.goods hlt) (by have := Jn_len t; omega)
  rw [Jn_sum hf.goods hlt] at sJ
  have sT := sum_spec t 3072 (by omega) (by omega) uT1 (by omega)
  obtain ⟨-, l2, l3⟩ := low_spec n2 (by omega)
  have d1 := l3.d1; have d2 := l3.d2; have dv := l3.dv
  have hmany : rangeM (m_gleekeep2_PlayedLasts_l1 (bs, q) (gs, 0)) 0 (expand bs (gsB none 0 bs)) 0 = some (.brk ((inOrd gs (expand bs (gsB none 0 bs))).length : Int)) := by
    have key : ∀ (ord : List Int) (i : Nat) (u : Int), (∀ k ∈ ord, ∃ j : Nat, k = j ∧ ∃ x, bs[j]? = some x) → 0 ≤ u → u + 2000 * ord.length ≤ 1000000000 →
        rangeM (m_gleekeep2_PlayedLasts_l1 (bs, q) (gs, 0)) i ord u = some (.brk (u + ((inOrd gs ord).length : Int))) := by
      intro ord
      induction ord with
      | nil => intro i u _ _ _; simp [inOrd]
      | cons k ord ih =>
        intro i u hm hu hb2
        obtain ⟨j, rfl, x, hx⟩ := hm k (List.mem_cons_self ..)
        have hjb := (List.getElem?_eq_some_iff.1 hx).1
        have hj : j < gs.length := by omega
        have hlen := hgm gs[j] (List.getElem_mem hj)
        simp only [List.length_cons] at hb2
        have e1 : m_gleekeep2_PlayedLasts_l1 (bs, q) (gs, 0) i (j : Int) u = some (.nxt (u + (gs[j].length : Int))) := by
          unfold m_gleekeep2_PlayedLasts_l1
          simp only
          rw [decide_eq_false (by omega), ifB_false, decide_eq_false (by omega), Option.bind_some, fin_inl, ifB_false, getI_of rfl (List.getElem?_eq_getElem hj), Option.bind_some, w64_id (by omega)]
        rw [rangeM_cons, e1, Option.bind_some, run_nxt, ih (i + 1) _ (fun q hq => hm q (List.mem_cons_of_mem _ hq)) (by omega) (by omega), inOrd_cons hj, List.length_append, Int.natCast_add, Int.add_assoc]
    rw [key _ 0 0 hmem (Int.le_refl _) (by omega), Int.zero_add]
  rw [b1, Option.bind_some]
  simp only
  rw [t1, Option.bind_some]
  simp only
  rw [hO, Option.bind_some, n1, Option.bind_some, hP, Option.bind_some, hI, Option.bind_some, hJ, Option.bind_some]
  simp only
  rw [show m_gleekeep2_errs [0, 0, 0, 0, 0] = some 0 by kernel_rfl, Option.bind_some, show ((0 : Int) != 0) = false from rfl, ifB_false, decide_eq_false (by omega), ifB_false, remM_of (by omega), dv, Option.bind_some, show ((0 : Int) != 0) = false from rfl, ifB_false,
    hgl, show ((bs.length : Int) != (bs.length : Int)) = false by simp, ifB_false, sP, Option.bind_some, quoM_of (by omega), Option.bind_some]
  have hq : 0 ≤ (192 : Int).tdiv (lowF ((expand bs (gsB none 0 bs)).map (lk bs)).sum.toNat 192).Den := Int.tdiv_nonneg (by omega) (by omega)
  have hq2 : (192 : Int).tdiv (lowF ((expand bs (gsB none 0 bs)).map (lk bs)).sum.toNat 192).Den ≤ 192 := by
    rw [Int.tdiv_eq_ediv_of_nonneg (by omega)]
    exact Int.ediv_le_self _ (by omega)
  have hw : w64 ((lowF ((expand bs (gsB none 0 bs)).map (lk bs)).sum.toNat 192).Num * w64 ((192 : Int).tdiv (lowF ((expand bs (gsB none 0 bs)).map (lk bs)).sum.toNat 192).Den)) = ((expand bs (gsB none 0 bs)).map (lk bs)).sum := by
    rw [w64_id (n := (192 : Int).tdiv _) (by omega)]
    show w64 (uF _) = _
    rw [l2, w64_id (by omega)]
  have hjl := Jn_len t
  rw [hw, show (((expand bs (gsB none 0 bs)).map (lk bs)).sum != ((expand bs (gsB none 0 bs)).map (lk bs)).sum) = false by simp, ifB_false, sJ, Option.bind_some, sT, Option.bind_some, show (sumL t != sumL t) = false by simp, ifB_false,
    decide_eq_false (by omega), Option.bind_some, fin_inl, ifB_false, hmany, Option.bind_some, fin_brk, Concat_good gs (by rw [← g3]; exact hlt), Option.bind_some, ← g3, EqualT_refl, Option.bind_some, ifB_true, p2]
  simp only [beq_self_eq_true, ifB_true]
  rw [ready_true]
  rfl
end Go.G
