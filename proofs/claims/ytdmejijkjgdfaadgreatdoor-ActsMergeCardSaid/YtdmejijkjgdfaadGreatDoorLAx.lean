/- LAx: ActsMerge. In plain Lean, no program in sight. -/
import Derived.Test.YtdmejijkjgdfaadGreatDoorLAq
import Derived.Test.YtdmejijkjgdfaadGreatDoorLY3
import Derived.Test.YtdmejijkjgdfaadGreatDoorLY6
import Derived.Test.YtdmejijkjgdfaadGreatDoorLYc
import Derived.Test.YtdmejijkjgdfaadGreatDoorLAc
import Derived.Test.YtdmejijkjgdfaadGreatDoorLE1
namespace Go.G
open Go Go.J
set_option linter.unusedSimpArgs false
set_option linter.unusedVariables false
theorem ConcatX (gs : List (List TAct)) (h : (List.flatten gs).length ≤ 2000) : m_slices_Concat_api_Act_api_Act gs = some (List.flatten gs) := by
  have k1 : ∀ (l : List (List TAct)) (i : Nat) (u : Int), 0 ≤ u → u + ((List.flatten l).length : Int) ≤ 100000 → rangeM m_slices_Concat_api_Act_api_Act_l1 i l u = some (.brk (u + ((List.flatten l).length : Int))) := by
    intro l
    induction l with
    | nil => intro i u _ _; simp
    | cons g l ih =>
      intro i u hu hb
      simp only [List.flatten_cons, List.length_append, Int.natCast_add] at hb
      have e : m_slices_Concat_api_Act_api_Act_l1 i g u = some (.nxt (u + (g.length : Int))) := by
        unfold m_slices_Concat_api_Act_api_Act_l1
        rw [w64_id (by omega), decide_eq_false (by omega), ifB_false]
      rw [rangeM_cons, e, Option.bind_some, run_nxt, ih (i + 1) _ (by omega) (by omega)]
      simp only [List.flatten_cons, List.length_append, Int.natCast_add, Int.add_assoc]
  have k2 : ∀ (l : List (List TAct)) (i : Nat) (u : List TAct), u.length + (List.flatten l).length ≤ 100000 → rangeM m_slices_Concat_api_Act_api_Act_l2 i l u = some (.brk (u ++ List.flatten l)) := by
    intro l
    induction l with
    | nil => intro i u _; simp
    | cons g l ih =>
      intro i u hb
      simp only [List.flatten_cons, List.length_append] at hb
      have e : m_slices_Concat_api_Act_api_Act_l2 i g u = some (.nxt (u ++ g)) := by
        unfold m_slices_Concat_api_Act_api_Act_l2
        rw [appM_of (by omega) (by omega)]; rfl
      rw [rangeM_cons, e, Option.bind_some, run_nxt, ih (i + 1) _ (by rw [List.length_append]; omega)]
      simp
  unfold m_slices_Concat_api_Act_api_Act
  rw [k1 gs 0 0 (Int.le_refl _) (by omega), Option.bind_some, fin_brk, Int.zero_add]
  have hg : m_slices_Grow_api_Act_api_Act__nil ((List.flatten gs).length : Int) = some [] := by
    unfold m_slices_Grow_api_Act_api_Act__nil
    rw [decide_eq_false (by omega), ifB_false, show w64 (0 - 0) = 0 from rfl, w64_id (by omega)]
    by_cases h0 : ((List.flatten gs).length : Int) - 0 > 0
    · have hgr : growM 112 (((List.flatten gs).length : Int) - 0) = some () := by
        unfold growM
        rw [if_pos ⟨by omega, by omega, by unfold maxLen; omega⟩]
      rw [decide_eq_true h0, ifB_true, hgr]
      rfl
    · rw [decide_eq_false h0, ifB_false]
  rw [hg, Option.bind_some, k2 gs 0 [] (by rw [List.length_nil]; omega), List.nil_append]
  rfl
theorem CloneX (l : List TAct) (h : l.length ≤ 1000) : m_slices_Clone_api_Act_api_Act l = some l := by
  unfold m_slices_Clone_api_Act_api_Act
  rw [appM_of (by simp; omega) (by omega)]; rfl
theorem EqAX (l : List TAct) : m_slices_Equal_api_Act_api_Act l l = some true := by
  unfold m_slices_Equal_api_Act_api_Act
  rw [show ((l.length : Int) != (l.length : Int)) = false by simp, ifB_false]
  obtain ⟨s, h1, -⟩ := rangeM_invx (m_slices_Equal_api_Act_api_Act_l1 l) l (fun _ _ => True) (by
    intro i x s hx _
    unfold m_slices_Equal_api_Act_api_Act_l1
    rw [getI_of rfl hx, Option.bind_some, decide_eq_true rfl]
    exact ⟨_, rfl, trivial⟩) () trivial
  rw [h1]; rfl
theorem EqIX (l : List Int) : m_slices_Equal_int_int l l = some true := by
  unfold m_slices_Equal_int_int
  rw [show ((l.length : Int) != (l.length : Int)) = false by simp, ifB_false]
  obtain ⟨s, h1, -⟩ := rangeM_invx (m_slices_Equal_int_int_l1 l) l (fun _ _ => True) (by
    intro i x s hx _
    unfold m_slices_Equal_int_int_l1
    rw [getI_of rfl hx, Option.bind_some, bne_self_eq_false]
    exact ⟨_, rfl, trivial⟩) () trivial
  rw [h1]; rfl
theorem clubbedX : m_gleelaw2_clubbed = some true := by
  unfold m_gleelaw2_clubbed
  rw [show m_club_Members [(TAct.mk (ByteArray.mk [97].toArray) 1 0 1 (ByteArray.mk [97, 110, 110].toArray) ByteArray.empty 0 false ByteArray.empty 0)] 0 = some ([annA], 0) from one_member, Option.bind_some]
  show ifB ((0 : Int) == 0) ((m_slices_Equal_string_string [annA] [annA]).bind fun y5 => some y5) (some false) = some true
  rw [EqualS_refl]; rfl
theorem write_step (L : List Int) {a : List TAct} (hl : a.length ≤ 1000) (q : Int) (i : Nat) (x : TAct) {p : Int} (hp : 0 ≤ p) (hp' : p ≤ 1000000) : m_gleelaw2_ActsMerge_l1 L (a, q) (actsF a) i x p = some (.nxt (p + 2)) := by
  unfold m_gleelaw2_ActsMerge_l1
  obtain ⟨b1, f1⟩ := Flip_spec L (p := p) (n := 12) hp (by omega) (by omega)
  obtain ⟨b2, f2⟩ := Flip_spec L (p := p + 1) (n := 2) (by omega) (by omega) (by omega)
  rw [f1, Option.bind_some]
  simp only
  rw [show (ifB b1 (some (.inl 1)) (some (.inl 0)) : Option (Int ⊕ (Flow Int Bool))) = some (.inl (bif b1 then 1 else 0)) by cases b1 <;> rfl, Option.bind_some, fin_inl, f2, Option.bind_some]
  simp only
  rw [show (ifB b2 (some (.inl (w64 (x.At + 103680000000)))) (some (.inl x.At)) : Option (Int ⊕ (Flow Int Bool))) = some (.inl (bif b2 then w64 (x.At + 103680000000) else x.At)) by cases b2 <;> rfl, Option.bind_some, fin_inl]
  generalize TAct.mk x.Site (bif b1 then 1 else 0) (bif b2 then w64 (x.At + 103680000000) else x.At) x.Kind x.Who x.Motion x.Cents x.Yes x.Of x.Other = y
  have key : ∃ v e, m_club_Write a y = some (v, e) ∧ (ifB (actsF a == 0) ((m_gleeref2_WriteAct a y).bind fun y77 => some (.inl (y77.2, y77.1))) (some (.inl (actsF a, []))) : Option ((Int × (List TAct)) ⊕ (Flow Int Bool))) = some (.inl (e, v)) := by
    by_cases h : actsF a = 0
    · obtain ⟨v, e, h1, h2⟩ := Write_A h hl (CloneX a hl) y
      exact ⟨v, e, h1, by rw [h, h2]; rfl⟩
    · refine ⟨[], actsF a, ?_, by rw [beq_eq_false_iff_ne.2 h]; rfl⟩
      unfold m_club_Write
      rw [CheckActs_spec, Option.bind_some, bne_iff_ne.2 h, ifB_true]
  obtain ⟨v, e, h1, h2⟩ := key
  rw [h1, Option.bind_some, h2, Option.bind_some, fin_inl]
  simp only
  rw [bne_self_eq_false, ifB_false, EqAX, Option.bind_some, Option.bind_some, fin_inl]
  simp only [Bool.not_true, ifB_false]
  congr 2; omega
theorem actsFaultX (l : List TAct) (t : Int) : m_gleelaw2_actsFault l t = some (askF l t) := by
  unfold m_gleelaw2_actsFault m_gleeref2_MomentFault m_gleeref2_Moment askF isAt inR
  rw [ActsFault_spec, Option.bind_some]
  first
    | rw [in_spec, Option.bind_some]
    | (rw [in_spec]; simp only [Option.bind_some])
  cases decide (0 ≤ t ∧ t ≤ 345686399999)
  · simp only [Bool.not_false, ifB_true, Option.bind_some, errsG]
    unfold errG errG errG
    cases actsF l != 0 <;> rfl
  · simp only [Bool.not_true, ifB_false, Option.bind_some, errsG]
    unfold errG errG errG
    cases actsF l != 0 <;> rfl
theorem draw_b (L : List Int) {a b0 : List TAct} {p : Int} (hp : 0 ≤ p) (hp' : p ≤ 1000000) (ha : a.length ≤ 20) (hb : b0.length ≤ 20) :
    ∃ (u9 : Bool × Int), (ifB (decide ((a.length : Int) > 0)) ((m_gleemake_Stream_Flip L p 2).bind fun y12 => some (.inl (y12.1, y12.2))) (some (.inl (false, p))) : Option ((Bool × Int) ⊕ Bool)) = some (.inl u9) ∧
    ∃ (u13 : Int × List TAct), (ifB u9.1 ((m_gleemake_Stream_Next L u9.2 (a.length : Int)).bind fun y17 => (sliceI a y17.1 (a.length : Int)).bind fun q18 => (m_slices_Clone_api_Act_api_Act q18).bind fun y19 => (m_gleemake_Stream_Flip L y17.2 4).bind fun y21 => ifB y21.1 ((getI y19 0).bind fun e22 => (getI y19 0).bind fun e23 => some (.inl (y21.2, (y19.set ((0 : Int).toNat) (TAct.mk e23.Site e23.No (w64 (e22.At + 1)) e23.Kind e23.Who e23.Motion e23.Cents e23.Yes e23.Of e23.Other))))) (some (.inl (y21.2, y19)))) (some (.inl (u9.2, b0))) : Option ((Int × (List TAct)) ⊕ Bool)) = some (.inl u13) ∧ 0 ≤ u13.1 ∧ u13.1 ≤ p + 10 ∧ u13.2.length ≤ 20 := by
  by_cases h0 : a.length = 0
  · refine ⟨(false, p), by rw [decide_eq_false (by omega)]; rfl, (p, b0), rfl, hp, by simp only; omega, hb⟩
  · obtain ⟨b, h1⟩ := Flip_spec L (p := p) (n := 2) hp (by omega) (by omega)
    refine ⟨(b, p + 1), by rw [decide_eq_true (by omega), ifB_true, h1]; rfl, ?_⟩
    simp only
    cases b with
    | false => exact ⟨(p + 1, b0), rfl, by simp only; omega, by simp only; omega, hb⟩
    | true =>
      obtain ⟨r, h2, h3, h4⟩ := Next_spec L (p := p + 1) (n := (a.length : Int)) (by omega) (by omega) (by omega)
      have h4 := h4 (by omega)
      obtain ⟨b2, h5⟩ := Flip_spec L (p := p + 1 + 1) (n := 4) (by omega) (by omega) (by omega)
      have hsl : sliceI a r (a.length : Int) = some (a.drop r.toNat) := by
        rw [sliceI_of (a := r.toNat) (b := a.length) (by omega) rfl (by omega) (Nat.le_refl _)]
        refine congrArg some ?_
        exact List.take_of_length_le (by rw [List.length_drop]; omega)
      have hdl : (a.drop r.toNat).length = a.length - r.toNat := List.length_drop
      rw [ifB_true, h2, Option.bind_some]
      simp only
      rw [hsl, Option.bind_some, CloneX _ (by omega), Option.bind_some, h5, Option.bind_some]
      simp only
      cases b2 with
      | false => exact ⟨(p + 1 + 1 + 1, _), rfl, by simp only; omega, by simp only; omega, by simp only; omega⟩
      | true =>
        have hg0 : getI (a.drop r.toNat) 0 = some ((a.drop r.toNat)[0]'(by omega)) := getI_of (n := 0) rfl (List.getElem?_eq_getElem (by omega))
        rw [ifB_true, hg0, Option.bind_some, Option.bind_some]
        exact ⟨(p + 1 + 1 + 1, _), rfl, by simp only; omega, by simp only; omega, by simp only [List.length_set]; omega⟩
theorem ActsMerge_true (L : List Int) : m_gleelaw2_ActsMerge L = some true := by
  unfold m_gleelaw2_ActsMerge
  obtain ⟨n, a1, b1, c1⟩ := Range_spec L (p := 0) (a := 0) (b := 14) (by omega) (by omega) (by omega) (by omega) (by omega)
  obtain ⟨a, q2, a2, b2, c2, d2, -⟩ := Acts_spec L (p := 0 + 1) (n := n) (by omega) (by omega) b1 (by omega)
  obtain ⟨m, a3, b3, c3⟩ := Range_spec L (p := q2) (a := 0) (b := 6) b2 (by omega) (by omega) (by omega) (by omega)
  obtain ⟨b0, q4, a4, b4, c4, d4, -⟩ := Acts_spec L (p := q2 + 1) (n := m) (by omega) (by omega) b3 (by omega)
  obtain ⟨t, a5, -⟩ := Pick_spec L (p := q4) [0, 5, 20, 40, 2592000000, 2592000010, 7776000000, 7776000020, (-1)] b4 (by omega) (by simp) (by simp)
  have a5' : m_gleemake_Stream_ActTime L q4 = some (t, q4 + 1) := by unfold m_gleemake_Stream_ActTime; rw [a5]; rfl
  obtain ⟨u9, k1, u13, k2, k3, k4, k5⟩ := draw_b L (a := a) (b0 := b0) (p := q4 + 1) (by omega) (by omega) (by omega) (by omega)
  rw [a1, Option.bind_some]
  simp only
  rw [a2, Option.bind_some]
  simp only
  rw [a3, Option.bind_some]
  simp only
  rw [a4, Option.bind_some]
  simp only
  rw [a5', Option.bind_some]
  simp only
  rw [k1, Option.bind_some, fin_inl, k2, Option.bind_some, fin_inl]
  have ef : List.flatten [a, u13.2] = a ++ u13.2 := by simp
  have hcat := ConcatX [a, u13.2] (by rw [ef, List.length_append]; omega)
  rw [ef] at hcat
  obtain ⟨m1, m2⟩ := Merge_A (a := a) (b := u13.2) (by omega) hcat (CloneX a (by omega))
  have hM : ∃ v e, m_club_Merge a u13.2 = some (v, e) ∧ (ifB (errG [actsF a, actsF u13.2] == 0) ((m_gleeref2_ActsOf a u13.2).bind fun y37 => some (.inl (y37.2, y37.1))) (some (.inl (errG [actsF a, actsF u13.2], []))) : Option ((Int × (List TAct)) ⊕ Bool)) = some (.inl (e, v)) := by
    by_cases he : errG [actsF a, actsF u13.2] = 0
    · obtain ⟨v, e, h1, h2⟩ := m2 he
      exact ⟨v, e, h1, by rw [he, h2]; rfl⟩
    · exact ⟨[], _, m1 he, by rw [beq_eq_false_iff_ne.2 he]; rfl⟩
  obtain ⟨v, e, h1, h2⟩ := hM
  have hC : ∃ w, m_club_Counting a t = some (w, askF a t) ∧ (ifB (askF a t == 0) ((m_gleeref2_CountingOf a t).bind fun y44 => some (.inl y44)) (some (.inl [])) : Option ((List Int) ⊕ Bool)) = some (.inl w) := by
    rw [Counting_spec]
    by_cases he : askF a t = 0
    · rw [if_pos he]
      exact ⟨_, by rw [he], by rw [he, CountingOf_spec a t (askF_zero he).1]; rfl⟩
    · rw [if_neg he]
      exact ⟨[], rfl, by rw [beq_eq_false_iff_ne.2 he]; rfl⟩
  obtain ⟨w, g1, g2⟩ := hC
  rw [ActsFault_spec, Option.bind_some, h1, Option.bind_some, g1, Option.bind_some, ActsFault_spec, Option.bind_some, errsG, Option.bind_some, actsFaultX, Option.bind_some, h2, Option.bind_some, fin_inl, g2, Option.bind_some, fin_inl, CheckActs_spec, Option.bind_some]
  simp only
  simp only [bne_self_eq_false, ifB_false, EqAX, EqIX, Option.bind_some, Bool.not_true, fin_inl]
  obtain ⟨z, q6, a6, b6, c6, d6, -⟩ := Acts_spec L (p := u13.1) (n := 2) k3 (by omega) (by omega) (by omega)
  rw [a6, Option.bind_some]
  simp only
  obtain ⟨s, r1, -⟩ := rangeM_invx (m_gleelaw2_ActsMerge_l1 L (a, q2) (actsF a)) z (fun j s => 0 ≤ s ∧ s ≤ q6 + 2 * (j : Int)) (by
    intro i x s hx hI
    have hi := (List.getElem?_eq_some_iff.1 hx).1
    exact ⟨_, write_step L (by omega) q2 i x hI.1 (by omega), by omega, by omega⟩) q6 ⟨b6, by simp⟩
  rw [r1, Option.bind_some, fin_brk, clubbedX]; rfl
end Go.G
