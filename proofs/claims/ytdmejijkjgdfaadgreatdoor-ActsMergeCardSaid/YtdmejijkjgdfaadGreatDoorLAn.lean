/- LAn: Merge of any two lists of acts, against the reference. In plain Lean, no program in sight. -/
import Derived.Test.YtdmejijkjgdfaadGreatDoorLAm
import Derived.Test.YtdmejijkjgdfaadGreatDoorLM
namespace Go.G
open Go Go.J
set_option linter.unusedSimpArgs false
set_option linter.unusedVariables false
/-- acts taken into a list, one by one; none: two that are one act differ -/
def mrg : List TAct → List TAct → Option (List TAct)
  | out, [] => some out
  | out, y :: t => match out.find? fun o => decide (own o = own y) with | none => mrg (out ++ [y]) t | some o => if o = y then mrg out t else none
def SeenOK (seen : List (Tclub_own × TAct)) (out : List TAct) : Prop := ∀ k, lkM seen k = out.find? fun o => decide (own o = k)
theorem seen_put {seen : List (Tclub_own × TAct)} {out : List TAct} (h : SeenOK seen out) {y : TAct} (hy : (out.find? fun o => decide (own o = own y)) = none) : SeenOK (putM seen (own y) y) (out ++ [y]) := by
  intro k
  rw [lkM_put, List.find?_append, ← h k]
  by_cases e : k = own y
  · subst e
    rw [if_pos rfl, h, hy]
    simp
  · rw [if_neg e]
    cases hk : lkM seen k with
    | some o => rfl
    | none =>
      rw [List.find?_cons_of_neg (by simpa using fun g : own y = k => e g.symm)]
      rfl
theorem mrg_prog : ∀ (t : List TAct) (i : Nat) (seen : List (Tclub_own × TAct)) (out : List TAct), SeenOK seen out → out.length + t.length ≤ 100000 →
    ∃ f, rangeM m_club_Merge_l2 i t (seen, out) = some f ∧ (match mrg out t with | none => f = .ret ([], 13) | some o => ∃ s, f = .brk (s, o)) := by
  intro t
  induction t with
  | nil => intro i seen out _ _; exact ⟨_, rfl, seen, rfl⟩
  | cons y t ih =>
    intro i seen out hs hl
    rw [List.length_cons] at hl
    rw [rangeM_cons, mrg]
    have hlk := hs (own y)
    cases hf : out.find? (fun o => decide (own o = own y)) with
    | none =>
      rw [hf] at hlk
      have hst : m_club_Merge_l2 i y (seen, out) = some (.nxt (putM seen (own y) y, out ++ [y])) := by
        unfold m_club_Merge_l2
        rw [show Tclub_own.mk y.Site y.No = own y from rfl]
        simp only
        rw [hasM_lk, hlk, show (none : Option TAct).isSome = false from rfl, Bool.not_false, ifB_true, appM_of (by rw [List.length_singleton]; omega) (by omega)]; rfl
      rw [hst, Option.bind_some, run_nxt]
      exact ih (i + 1) _ _ (seen_put hs hf) (by rw [List.length_append, List.length_singleton]; omega)
    | some o =>
      rw [hf] at hlk
      have hst : m_club_Merge_l2 i y (seen, out) = some (if o = y then .nxt (seen, out) else .ret ([], 13)) := by
        unfold m_club_Merge_l2
        rw [show Tclub_own.mk y.Site y.No = own y from rfl]
        simp only
        rw [hasM_lk, hlk, show (some o : Option TAct).isSome = true from rfl, Bool.not_true, ifB_false]
        simp only [Option.getD_some]
        by_cases e : o = y
        · rw [if_pos e, decide_eq_true e]; rfl
        · rw [if_neg e, decide_eq_false e]; rfl
      rw [hst]
      simp only
      by_cases e : o = y
      · rw [if_pos e, if_pos e, Option.bind_some, run_nxt]
        exact ih (i + 1) seen out hs (by omega)
      · rw [if_neg e, if_neg e]
        exact ⟨_, rfl, rfl⟩
theorem mrg_ref : ∀ (t : List TAct) (i : Nat) (out : List TAct), out.length + t.length ≤ 100000 →
    ∃ f, rangeM m_gleeref2_ActsOf_l1 i t out = some f ∧ (match mrg out t with | none => f = .ret ([], 13) | some o => f = .brk o) := by
  intro t
  induction t with
  | nil => intro i out _; exact ⟨_, rfl, rfl⟩
  | cons y t ih =>
    intro i out hl
    rw [List.length_cons] at hl
    rw [rangeM_cons, mrg]
    obtain ⟨n, k1, k2⟩ := ixM_spec (fun o : TAct => m_gleeref2_ActsOf_1 o y.Site y.No y.At y.Kind y.Who y.Motion y.Cents y.Yes y.Of y.Other) (fun o => decide (own o = own y)) out (fun o _ => by
      unfold m_gleeref2_ActsOf_1
      rw [show TAct.mk y.Site y.No y.At y.Kind y.Who y.Motion y.Cents y.Yes y.Of y.Other = y from rfl, oneAct_spec]; rfl)
    have k1' : m_slices_IndexFunc_api_Act_api_Act__gleeref2_ActsOf_1 out y.Site y.No y.At y.Kind y.Who y.Motion y.Cents y.Yes y.Of y.Other = some n := k1
    rcases k2 with ⟨rfl, hno⟩ | ⟨k, rfl, hk, hbef, x, hx, hd⟩
    · have hf : out.find? (fun o => decide (own o = own y)) = none := List.find?_eq_none.2 fun o ho => by rw [hno o ho]; decide
      have hst : m_gleeref2_ActsOf_l1 i y out = some (.nxt (out ++ [y])) := by
        unfold m_gleeref2_ActsOf_l1
        rw [k1', Option.bind_some, show decide ((-1 : Int) < 0) = true from rfl, ifB_true, appM_of (by rw [List.length_singleton]; omega) (by omega)]; rfl
      rw [hst, Option.bind_some, run_nxt, hf]
      exact ih (i + 1) _ (by rw [List.length_append, List.length_singleton]; omega)
    · have hf : out.find? (fun o => decide (own o = own y)) = some x := by
        obtain ⟨hi, hxe⟩ := List.getElem?_eq_some_iff.1 hx
        have e2 : out.drop k = x :: out.drop (k + 1) := by rw [List.drop_eq_getElem_cons hi, hxe]
        have e3 : out.find? (fun o => decide (own o = own y)) = (out.take k ++ out.drop k).find? (fun o => decide (own o = own y)) := by rw [List.take_append_drop]
        rw [e3, List.find?_append, List.find?_eq_none.2 fun o ho => by rw [hbef o ho]; decide]
        rw [e2, List.find?_cons_of_pos (p := fun o => decide (own o = own y)) hd]; rfl
      have hst : m_gleeref2_ActsOf_l1 i y out = some (if x = y then .nxt out else .ret ([], 13)) := by
        unfold m_gleeref2_ActsOf_l1
        rw [k1', Option.bind_some, decide_eq_false (by omega), ifB_false, getI_of rfl hx, Option.bind_some]
        by_cases e : x = y
        · rw [if_pos e, decide_eq_true e]; rfl
        · rw [if_neg e, decide_eq_false e]; rfl
      rw [hst, hf]
      simp only
      by_cases e : x = y
      · rw [if_pos e, if_pos e, Option.bind_some, run_nxt]
        exact ih (i + 1) out (by omega)
      · rw [if_neg e, if_neg e]
        exact ⟨_, rfl, rfl⟩
/-- what is put together holds each act once -/
theorem mrg_ok : ∀ (t out : List TAct), (out.map own).Nodup → ∀ o, mrg out t = some o → (o.map own).Nodup ∧ (∀ x ∈ o, x ∈ out ∨ x ∈ t) ∧ o.length ≤ out.length + t.length := by
  intro t
  induction t with
  | nil => intro out h o ho; cases ho; exact ⟨h, fun x hx => .inl hx, by simp⟩
  | cons y t ih =>
    intro out h o ho
    rw [mrg] at ho
    cases hf : out.find? (fun o => decide (own o = own y)) with
    | none =>
      rw [hf] at ho
      have hn : ((out ++ [y]).map own).Nodup := by
        rw [List.map_append, List.nodup_append]
        refine ⟨h, by simp, fun u hu v hv e => ?_⟩
        obtain ⟨a, ha, rfl⟩ := List.mem_map.1 hu
        simp only [List.map_cons, List.map_nil, List.mem_singleton] at hv
        exact absurd (List.find?_eq_none.1 hf a ha) (by simp [e.trans hv])
      obtain ⟨h1, h2, h3⟩ := ih _ hn o ho
      refine ⟨h1, fun x hx => ?_, by rw [List.length_append, List.length_singleton] at h3; rw [List.length_cons]; omega⟩
      rcases h2 x hx with g | g
      · rcases List.mem_append.1 g with g | g
        · exact .inl g
        · rw [List.mem_singleton.1 g]; exact .inr (List.mem_cons_self ..)
      · exact .inr (List.mem_cons_of_mem _ g)
    | some z =>
      rw [hf] at ho
      simp only at ho
      by_cases e : z = y
      · rw [if_pos e] at ho
        obtain ⟨h1, h2, h3⟩ := ih _ h o ho
        exact ⟨h1, fun x hx => (h2 x hx).imp_right fun g => List.mem_cons_of_mem _ g, by rw [List.length_cons]; omega⟩
      · rw [if_neg e] at ho; cases ho
/-- a list whose acts differ is taken whole -/
theorem mrg_self : ∀ (t out : List TAct), ((out ++ t).map own).Nodup → ∀ r, mrg out (t ++ r) = mrg (out ++ t) r := by
  intro t
  induction t with
  | nil => intro out _ r; simp
  | cons y t ih =>
    intro out h r
    have hf : out.find? (fun o => decide (own o = own y)) = none := by
      refine List.find?_eq_none.2 fun o ho g => ?_
      rw [List.map_append, List.nodup_append] at h
      exact h.2.2 (own o) (List.mem_map.2 ⟨o, ho, rfl⟩) (own y) (by simp) (of_decide_eq_true g)
    rw [List.cons_append, mrg, hf]
    simp only
    rw [ih (out ++ [y]) (by rw [List.append_assoc]; exact h) r, List.append_assoc]; rfl
end Go.G
