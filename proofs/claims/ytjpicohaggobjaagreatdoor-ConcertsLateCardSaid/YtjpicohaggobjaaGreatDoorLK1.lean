/- LK1: when programs begin; items of two programs; how late. No program in sight. -/
import Derived.Test.YtjpicohaggobjaaGreatDoorLC4
import Derived.Test.YtjpicohaggobjaaGreatDoorLS1
namespace Go.G
open Go Go.J
set_option linter.unusedSimpArgs false
theorem BeginFault_spec {p : TProgram} (h : ProgOK p) {fr : Int} (h0 : -1000000000000000 ≤ fr) (h1 : fr ≤ 1000000000000000) :
    m_gleeref2_BeginFault p fr = some (if 0 ≤ fr ∧ fr ≤ 345686399999 ∧ fr + bg p p.Items.length ≤ 345686400000 then 0 else 1) := by
  have hb := bg_rng h p.Items.length; have hl := h.len
  unfold m_gleeref2_BeginFault m_gleeref2_Moment
  rw [in_spec, Option.bind_some, Option.bind_some, LongOf_spec h, Option.bind_some, w64_id (by omega)]
  by_cases h2 : 0 ≤ fr ∧ fr ≤ 345686399999
  · rw [decide_eq_true h2, Bool.not_true, ifB_false, Option.bind_some, fin_inl]
    by_cases h3 : fr + bg p p.Items.length > 345686400000
    · rw [decide_eq_true h3, if_neg (by omega)]; rfl
    · rw [decide_eq_false h3, if_pos (by omega)]; rfl
  · rw [decide_eq_false h2, Bool.not_false, ifB_true, Option.bind_some, fin_inl, ifB_true, if_neg (by omega)]
theorem fromFault_spec {p : TProgram} {e : Int} (he : m_gleeref2_ProgramFault p = some e) {fr : Int} (h0 : -1000000000000000 ≤ fr) (h1 : fr ≤ 1000000000000000) (h : e = 0 → ProgOK p) :
    m_concert_fromFault p fr = if e = 0 then m_gleeref2_BeginFault p fr else some e := by
  unfold m_concert_fromFault
  rw [CheckProgram_eq, he, Option.bind_some]
  by_cases h2 : e = 0
  · have hp := h h2
    subst h2
    have hb := bg_rng hp p.Items.length; have hl := hp.len
    rw [if_pos rfl, BeginFault_spec hp h0 h1, begins_spec hp, Option.bind_some]
    unfold m_kit_IsMoment
    rw [Outside_spec, Option.bind_some, Option.bind_some]
    have e0 : ((0 : Int) != 0) = false := rfl
    rw [e0, ifB_false]
    simp only [Bool.not_not]
    rw [w64_id (by omega)]
    by_cases h2 : 0 ≤ fr ∧ fr ≤ 345686399999
    · rw [decide_eq_true h2, Bool.not_true, ifB_false, Option.bind_some, fin_inl]
      by_cases h3 : fr + bg p p.Items.length > 345686400000
      · rw [decide_eq_true h3, if_neg (by omega)]; rfl
      · rw [decide_eq_false h3, if_pos (by omega)]; rfl
    · rw [decide_eq_false h2, Bool.not_false, ifB_true, Option.bind_some, fin_inl, ifB_true, if_neg (by omega)]
  · have : (e != 0) = true := by simpa using h2
    rw [this, ifB_true, if_neg h2]
theorem ConcertTime_spec (L : List Int) {q : Int} (hq : 0 ≤ q) (hq' : q ≤ 999990000) : ∃ v, m_gleemake_Stream_ConcertTime L q = some (v, q + 1) ∧ -1 ≤ v ∧ v ≤ 345686400000 := by
  unfold m_gleemake_Stream_ConcertTime
  obtain ⟨v, h1, h2⟩ := Pick_spec L (p := q) [0, 0, 100, 1000, (-1), 345686399500, 345686400000] hq (by omega) (by simp) (by simp)
  rw [h1]
  refine ⟨v, rfl, ?_⟩
  simp only [List.mem_cons, List.mem_nil_iff, or_false] at h2
  omega
/-! ### faults -/
theorem when_spec (b : Bool) (n : Int) : m_gleelaw2_when b n = some (bif b then n else 0) := by cases b <;> rfl
def fst0 : List Int → Int
  | [] => 0
  | k :: t => if k = 0 then fst0 t else k
theorem errs_loop : ∀ (t : List Int) (i : Nat), ∃ f, rangeM m_gleelaw2_errs_l1 i t () = some f ∧ (Flow.fin f fun _ => some (0 : Int)) = some (fst0 t) := by
  intro t
  induction t with
  | nil => intro i; exact ⟨_, rfl, rfl⟩
  | cons k t ih =>
    intro i
    rw [rangeM_cons]
    unfold fst0
    by_cases h : k = 0
    · subst h
      rw [if_pos rfl]
      exact ih (i + 1)
    · rw [if_neg h]
      have : m_gleelaw2_errs_l1 i k () = some (.ret k) := by
        unfold m_gleelaw2_errs_l1
        rw [show (k != 0) = true by simpa using h]; rfl
      rw [this]
      exact ⟨_, rfl, rfl⟩
theorem errs_spec (t : List Int) : m_gleelaw2_errs t = some (fst0 t) := by
  obtain ⟨f, h1, h2⟩ := errs_loop t 0
  unfold m_gleelaw2_errs
  rw [h1]; exact h2
/-! ### strings -/
theorem EqualS_spec (a b : List ByteArray) : m_slices_Equal_string_string a b = some (decide (a = b)) := by
  unfold m_slices_Equal_string_string
  by_cases hl : a.length = b.length
  · have h0 : ((a.length : Int) != (b.length : Int)) = false := by simp [hl]
    rw [h0, ifB_false]
    obtain ⟨f, h1, h2⟩ := rangeM_stop (m_slices_Equal_string_string_l1 b) a (fun i _ => ∀ j, j < i → a[j]? = b[j]?)
      (fun f => (Flow.fin f fun _ => some true) = some (decide (a = b))) (by
      intro i x s hx hI
      have hi := (List.getElem?_eq_some_iff.1 hx).1
      have hb : b[i]? = some b[i] := List.getElem?_eq_getElem (by omega)
      unfold m_slices_Equal_string_string_l1
      rw [getI_of rfl hb, Option.bind_some]
      by_cases he : x = b[i]
      · have : (x.toList == b[i].toList) = true := by rw [he]; simp
        rw [this]
        refine ⟨_, rfl, fun s' _ j hj => ?_, fun _ e => (by cases e), fun _ e => (by cases e)⟩
        rcases Nat.lt_succ_iff_lt_or_eq.1 hj with h | rfl
        · exact hI j h
        · rw [hx, hb, he]
      · have : (x.toList == b[i].toList) = false := by
          rw [beq_eq_false_iff_ne]
          exact fun h => he (ba_toList_inj.1 h)
        rw [this]
        refine ⟨_, rfl, fun s' e => (by cases e), fun _ e => (by cases e), fun v e => ?_⟩
        cases e
        have : a ≠ b := fun h => he (by
          subst h
          rw [List.getElem?_eq_getElem hi] at hx
          exact (Option.some.inj hx).symm)
        rw [decide_eq_false this]; rfl) (fun s hI => by
      have : a = b := List.ext_getElem? fun j => by
        by_cases hj : j < a.length
        · exact hI j hj
        · rw [List.getElem?_eq_none (by omega), List.getElem?_eq_none (by omega)]
      rw [decide_eq_true this]; rfl) () (fun j hj => by omega)
    rw [h1]; exact h2
  · have h0 : ((a.length : Int) != (b.length : Int)) = true := by simp; omega
    rw [h0, ifB_true, decide_eq_false (fun h => hl (congrArg List.length h))]
theorem EqualS_refl (a : List ByteArray) : m_slices_Equal_string_string a a = some true := by rw [EqualS_spec]; simp
def memB (s : ByteArray) (a : List ByteArray) : Bool := a.any fun x => decide (x = s)
theorem memB_iff {s : ByteArray} {a : List ByteArray} : memB s a = true ↔ s ∈ a := by
  unfold memB
  simp only [List.any_eq_true, decide_eq_true_eq]
  exact ⟨fun ⟨x, h, e⟩ => e ▸ h, fun h => ⟨s, h, rfl⟩⟩
theorem memB_of {s : ByteArray} {a : List ByteArray} (h : s ∈ a) : memB s a = true := memB_iff.2 h
theorem memB_not {s : ByteArray} {a : List ByteArray} (h : ¬ s ∈ a) : memB s a = false := by rw [← Bool.not_eq_true, memB_iff]; exact h
theorem ContainsS_spec (a : List ByteArray) (s : ByteArray) : m_slices_Contains_string_string a s = some (memB s a) := by
  unfold m_slices_Contains_string_string m_slices_Index_string_string
  obtain ⟨f, h1, h2⟩ := rangeM_stop (m_slices_Index_string_string_l1 s) a (fun i _ => ∀ j x, j < i → a[j]? = some x → x ≠ s)
    (fun f => (Flow.fin f fun _ => some (-1 : Int)).bind (fun y => some (decide (y ≥ 0))) = some (memB s a)) (by
    intro i x u hx hI
    unfold m_slices_Index_string_string_l1
    by_cases he : s = x
    · have : (s.toList == x.toList) = true := by rw [he]; simp
      rw [this]
      refine ⟨_, rfl, fun _ e => (by cases e), fun _ e => (by cases e), fun v e => ?_⟩
      cases e
      rw [memB_of (show s ∈ a by rw [he]; exact List.mem_of_getElem? hx)]
      simp [Flow.fin]
    · have : (s.toList == x.toList) = false := by
        rw [beq_eq_false_iff_ne]
        exact fun h => he (ba_toList_inj.1 h)
      rw [this]
      refine ⟨_, rfl, fun s' _ j y hj hy => ?_, fun _ e => (by cases e), fun _ e => (by cases e)⟩
      rcases Nat.lt_succ_iff_lt_or_eq.1 hj with h | rfl
      · exact hI j y h hy
      · rw [hx] at hy; cases hy; exact fun h => he h.symm) (fun u hI => by
    have : ¬ s ∈ a := fun h => by
      obtain ⟨j, hj, e⟩ := List.getElem_of_mem h
      exact hI j s hj (by rw [List.getElem?_eq_getElem hj, e]) rfl
    rw [memB_not this]; rfl) () (fun j x hj => by omega)
  rw [h1, Option.bind_some]
  exact h2
/-! ### late -/
theorem itemAt_eq (p : TProgram) (k : ByteArray) : m_concert_itemAt p k = m_gleeref2_ItemAt p.Items k := rfl
theorem ItemAt_spec (q : List TItem) (k : ByteArray) : ∃ n, m_gleeref2_ItemAt q k = some n ∧ -1 ≤ n ∧ n < q.length ∧ (∀ x, 0 ≤ n → q[n.toNat]? = some x → x.Key = k) := by
  obtain ⟨n, h1, h2⟩ := IndexFunc_spec q k
  exact ⟨n, by unfold m_gleeref2_ItemAt; rw [h1]; rfl, h2⟩
def momB (at_ : Int) : Bool := decide (0 ≤ at_ ∧ at_ ≤ 345686399999)
theorem IsMoment_spec (a : Int) : m_kit_IsMoment a = some (momB a) := by
  unfold m_kit_IsMoment
  rw [Outside_spec]; simp [momB]
theorem MomentFault_spec (a : Int) : m_gleeref2_MomentFault a = some (bif momB a then 0 else 1) := by
  unfold m_gleeref2_MomentFault m_gleeref2_Moment
  rw [in_spec, Option.bind_some, Option.bind_some]
  show ifB (!momB a) _ _ = _
  cases momB a <;> rfl
theorem Late_spec {p : TProgram} {fr at_ b n : Int} {k : ByteArray} (hp : b = 0 → ProgOK p) (hb : m_concert_fromFault p fr = some b) (hn : m_gleeref2_ItemAt p.Items k = some n) (hn1 : n < p.Items.length)
    (hfr : -1 ≤ fr ∧ fr ≤ 345686400000) (hat : -1 ≤ at_ ∧ at_ ≤ 1000000) (e : Int) (he : e = fst0 [b, bif decide (n < 0) then 8 else 0, bif momB at_ then 0 else 1]) :
    ∃ v, m_concert_Late p fr k at_ = some (v, e) ∧ (e = 0 → m_gleeref2_LateIn p fr k at_ = some v) ∧ (e ≠ 0 → v = 0) := by
  unfold m_concert_Late
  rw [hb, Option.bind_some]
  by_cases hb0 : b = 0
  · have hpo := hp hb0
    subst hb0
    simp only [bne_self_eq_false, ifB_false, itemAt_eq, hn, Option.bind_some]
    by_cases h0 : n < 0
    · simp only [fst0, decide_eq_true h0, if_true, cond_true] at he
      simp only [decide_eq_true h0, ifB_true]
      rw [if_neg (by decide)] at he
      exact ⟨0, by rw [he], fun h => by omega, fun _ => rfl⟩
    · simp only [fst0, decide_eq_false h0, if_true, cond_false] at he
      simp only [decide_eq_false h0, ifB_false, IsMoment_spec, Option.bind_some]
      cases hm : momB at_ with
      | false =>
        rw [hm] at he
        simp at he
        exact ⟨0, by rw [he]; rfl, fun h => by omega, fun _ => rfl⟩
      | true =>
        rw [hm] at he
        simp at he
        subst he
        obtain ⟨m, rfl⟩ : ∃ m : Nat, n = m := ⟨n.toNat, by omega⟩
        have hml : m < p.Items.length := by omega
        have hbg := bg_rng hpo m
        have hl := hpo.len
        have hlo := longI_rng hpo m
        have hg : getI ((List.range p.Items.length).map (bg p)) (m : Int) = some (bg p m) := getI_of rfl (by simp [hml])
        have hg2 : getI ((List.range p.Items.length).map (tm p fr)) (m : Int) = some (tm p fr m) := getI_of rfl (by simp [hml])
        simp only [Bool.not_true, ifB_false, begins_spec hpo, Option.bind_some, hg]
        rw [w64_id (n := at_ - fr) (by omega), w64_id (by omega)]
        refine ⟨_, rfl, fun _ => ?_, fun h => (h rfl).elim⟩
        unfold m_gleeref2_LateIn
        rw [TimedOf_spec hpo (by omega) (by omega), Option.bind_some, hn, Option.bind_some, hg2, Option.bind_some]
        show some (w64 (at_ - (fr + bg p m))) = _
        rw [w64_id (by omega)]
        congr 1; omega
  · have hbb : (b != 0) = true := by simpa using hb0
    have hee : e = b := by rw [he]; unfold fst0; rw [if_neg hb0]
    rw [hbb, ifB_true]
    exact ⟨0, by rw [hee], fun h => (hb0 (hee ▸ h)).elim, fun _ => rfl⟩
/-! ### what differs -/
theorem same_eq {x y : TItem} (h : y.Key = x.Key) : m_gleeref2_SameItem x y = m_concert_same x y := by
  unfold m_gleeref2_SameItem m_concert_same
  rw [h, beq_self_eq_true, ifB_true]
theorem same_total (x y : TItem) : ∃ b, m_concert_same x y = some b := by
  unfold m_concert_same
  cases (x.Places.toList == y.Places.toList)
  · exact ⟨_, rfl⟩
  · cases (x.Long == y.Long)
    · exact ⟨_, rfl⟩
    · exact ⟨decide (x.Parts = y.Parts), by simp only [ifB_true, EqualS_spec, Option.bind_some]⟩
theorem Differ_spec {p r : TProgram} {e1 e2 : Int} (h1 : m_gleeref2_ProgramFault p = some e1) (h2 : m_gleeref2_ProgramFault r = some e2) (o1 : e1 = 0 → ProgOK p) (o2 : e2 = 0 → ProgOK r) :
    ∃ a b c, m_concert_Differ p r = some (a, b, c, fst0 [e1, e2]) ∧ (fst0 [e1, e2] = 0 → m_gleeref2_DifferingOf p r = some (a, b, c)) ∧ (fst0 [e1, e2] ≠ 0 → a = [] ∧ b = [] ∧ c = []) := by
  have s1 : ∀ i (x : TProgram) (e : Int), m_gleeref2_ProgramFault x = some e → m_concert_Differ_l1 i x () = some (if e = 0 then .nxt () else .ret ([], [], [], e)) := fun i x e he => by
    unfold m_concert_Differ_l1
    rw [CheckProgram_eq, he, Option.bind_some]
    by_cases h : e = 0
    · subst h; rfl
    · rw [show (e != 0) = true by simpa using h, if_neg h]; rfl
  unfold m_concert_Differ
  rw [rangeM_cons, s1 0 p e1 h1]
  by_cases he1 : e1 = 0
  · subst he1
    rw [if_pos rfl, Option.bind_some, run_nxt, rangeM_cons, s1 _ r e2 h2]
    by_cases he2 : e2 = 0
    · subst he2
      have hf : fst0 [0, 0] = 0 := rfl
      have op := o1 rfl; have or_ := o2 rfl
      have lp := op.len; have lr := or_.len
      obtain ⟨s, t, l1, l2, rfl, -, -⟩ := rangeM_rel2 (m_concert_Differ_l2 r) (m_gleeref2_DifferingOf_l1 r) p.Items (fun i s t => s = t ∧ s.1.length ≤ i ∧ s.2.length ≤ i) (by
        rintro i x ⟨u, v⟩ _ hx ⟨rfl, b1, b2⟩
        simp only at b1 b2
        have hi := (List.getElem?_eq_some_iff.1 hx).1
        obtain ⟨n, hn, n1, n2, n3⟩ := ItemAt_spec r.Items x.Key
        unfold m_concert_Differ_l2 m_gleeref2_DifferingOf_l1
        simp only [itemAt_eq, hn, Option.bind_some]
        by_cases h0 : n < 0
        · simp only [decide_eq_true h0, ifB_true]
          rw [appM_of (by simp; omega) (by omega)]
          exact ⟨_, _, rfl, rfl, rfl, by simp; omega, by simp only; omega⟩
        · simp only [decide_eq_false h0, ifB_false]
          have hlt : n.toNat < r.Items.length := by omega
          have hg : getI r.Items n = some r.Items[n.toNat] := getI_of (n := n.toNat) (by omega) (List.getElem?_eq_getElem hlt)
          have hk := n3 _ (by omega) (List.getElem?_eq_getElem hlt)
          obtain ⟨b, hb⟩ := same_total x r.Items[n.toNat]
          simp only [hg, Option.bind_some, same_eq hk, hb]
          cases b
          · simp only [Bool.not_false, ifB_true]
            rw [appM_of (by simp; omega) (by omega)]
            exact ⟨_, _, rfl, rfl, rfl, by simp only; omega, by simp; omega⟩
          · exact ⟨_, _, rfl, rfl, rfl, by simp only; omega, by simp only; omega⟩) ([], []) ([], []) ⟨rfl, by simp, by simp⟩
      obtain ⟨s', t', l3, l4, rfl, -⟩ := rangeM_rel2 (m_concert_Differ_l3 p) (m_gleeref2_DifferingOf_l2 p) r.Items (fun i s t => s = t ∧ s.length ≤ i) (by
        rintro i x u _ hx ⟨rfl, b1⟩
        have hi := (List.getElem?_eq_some_iff.1 hx).1
        obtain ⟨n, hn, -⟩ := ItemAt_spec p.Items x.Key
        unfold m_concert_Differ_l3 m_gleeref2_DifferingOf_l2
        simp only [itemAt_eq, hn, Option.bind_some]
        cases decide (n < 0)
        · exact ⟨_, _, rfl, rfl, rfl, by omega⟩
        · simp only [ifB_true]
          rw [appM_of (by simp; omega) (by omega)]
          exact ⟨_, _, rfl, rfl, rfl, by simp; omega⟩) [] [] ⟨rfl, by simp⟩
      refine ⟨s.1, s', s.2, ?_, fun _ => ?_, fun h => (h hf).elim⟩
      · rw [if_pos rfl, Option.bind_some, run_nxt]
        show ((rangeM (m_concert_Differ_l2 r) 0 p.Items ([], [])).bind _) = _
        rw [l1]
        show ((rangeM (m_concert_Differ_l3 p) 0 r.Items []).bind _) = _
        rw [l3]; rfl
      · unfold m_gleeref2_DifferingOf
        rw [l2]
        show ((rangeM (m_gleeref2_DifferingOf_l2 p) 0 r.Items []).bind _) = _
        rw [l4]; rfl
    · have hf : fst0 [0, e2] = e2 := by simp [fst0]; omega
      rw [if_neg he2, hf]
      exact ⟨[], [], [], rfl, fun h => (he2 h).elim, fun _ => ⟨rfl, rfl, rfl⟩⟩
  · have hf : fst0 [e1, e2] = e1 := by simp [fst0, he1]
    rw [if_neg he1, hf]
    exact ⟨[], [], [], rfl, fun h => (he1 h).elim, fun _ => ⟨rfl, rfl, rfl⟩⟩
end Go.G
