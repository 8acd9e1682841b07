/- LAo: club.Merge of any two lists, and the reference's. In plain Lean, no program in sight. -/
import Derived.Test.YtdmejijkjgdfaadGreatDoorLAn
import Derived.Test.YtdmejijkjgdfaadGreatDoorLEg
namespace Go.G
open Go Go.J
set_option linter.unusedSimpArgs false
set_option linter.unusedVariables false
theorem sortA_prog (u : List TAct) (hl : u.length ≤ 1000000) (hnd : (u.map own).Nodup) : m_slices_SortFunc_api_Act_api_Act__club_compare u = some (srtA u) :=
  sortFM_A m_club_compare u hl hnd fun x _ y _ => ⟨_, compare_spec x y, cmpA_lt x y⟩
theorem sortA_ref (u : List TAct) (hl : u.length ≤ 1000000) (hnd : (u.map own).Nodup) (hs : ∀ x ∈ u, small x) : m_slices_SortFunc_api_Act_api_Act__gleeref2_ActOrder u = some (srtA u) :=
  sortFM_A m_gleeref2_ActOrder u hl hnd fun x hx y hy => ⟨_, ActOrder_spec (hs x hx) (hs y hy), cmpA_lt x y⟩
theorem Merge_A {a b : List TAct} (hl : a.length + b.length ≤ 1000) (hcat : m_slices_Concat_api_Act_api_Act [a, b] = some (a ++ b)) (hcl : m_slices_Clone_api_Act_api_Act a = some a) :
    (errG [actsF a, actsF b] ≠ 0 → m_club_Merge a b = some ([], errG [actsF a, actsF b])) ∧
    (errG [actsF a, actsF b] = 0 → ∃ v e, m_club_Merge a b = some (v, e) ∧ m_gleeref2_ActsOf a b = some (v, e)) := by
  have hst : ∀ (i : Nat) (x : List TAct), m_club_Merge_l1 i x () = some (bif actsF x != 0 then .ret ([], actsF x) else .nxt ()) := fun i x => by
    unfold m_club_Merge_l1
    rw [CheckActs_spec, Option.bind_some]
    cases actsF x != 0 <;> rfl
  constructor
  · intro he
    unfold m_club_Merge
    rw [rangeM_cons, hst 0 a]
    unfold errG errG at he ⊢
    cases e1 : actsF a != 0 with
    | true => rfl
    | false =>
      rw [e1, cond_false] at he
      rw [cond_false, cond_false, Option.bind_some, run_nxt, rangeM_cons, hst _ b]
      cases e2 : actsF b != 0 with
      | true => rfl
      | false => rw [e2] at he; exact absurd rfl he
  · intro he
    have ha : actsF a = 0 := by
      by_cases g : actsF a = 0
      · exact g
      · rw [errG1 g] at he; exact he
    rw [errG0 ha] at he
    have hb : actsF b = 0 := by
      by_cases g : actsF b = 0
      · exact g
      · rw [errG1 g] at he; exact he
    have hA := (actsF_zero a).1 ha
    have hB := (actsF_zero b).1 hb
    unfold m_club_Merge m_gleeref2_ActsOf
    rw [rangeM_cons, hst 0 a, ha, show ((0 : Int) != 0) = false from rfl, cond_false, Option.bind_some, run_nxt, rangeM_cons, hst _ b, hb, show ((0 : Int) != 0) = false from rfl, cond_false, Option.bind_some, run_nxt, rangeM_nil, Option.bind_some, fin_brk, hcat, hcl, Option.bind_some, Option.bind_some]
    obtain ⟨f, k1, k2⟩ := mrg_prog (a ++ b) 0 [] [] (fun k => rfl) (by rw [List.length_append]; simp; omega)
    obtain ⟨g, k3, k4⟩ := mrg_ref b 0 a (by omega)
    rw [mrg_self a [] (by simpa using hA.nd) b, List.nil_append] at k2
    rw [k1, k3, Option.bind_some, Option.bind_some]
    cases hm : mrg a b with
    | none =>
      rw [hm] at k2 k4
      simp only at k2 k4
      subst k2 k4
      exact ⟨[], 13, rfl, rfl⟩
    | some o =>
      rw [hm] at k2 k4
      simp only at k2 k4
      obtain ⟨s, rfl⟩ := k2
      subst k4
      obtain ⟨h1, h2, h3⟩ := mrg_ok b a hA.nd o hm
      rw [fin_brk, fin_brk]
      simp only
      have hsm : ∀ x ∈ o, small x := fun x hx => by
        rcases h2 x hx with g | g
        · exact small_of (hA.ok x g)
        · exact small_of (hB.ok x g)
      have hpl := (srtA_perm o).length_eq
      rw [decide_eq_false (by omega), ifB_false, sortA_prog o (by omega) h1, sortA_ref o (by omega) h1 hsm, Option.bind_some, Option.bind_some, decide_eq_false (by omega), ifB_false]
      exact ⟨_, _, rfl, rfl⟩
end Go.G
