/- LY5: the books of a club, as the reference keeps them: the same. In plain Lean, no program in sight. -/
import Derived.Test.YtobglahldcnnmaaGreatDoorLY3
import Derived.Test.YtobglahldcnnmaaGreatDoorLY4
namespace Go.G
open Go Go.J
set_option linter.unusedSimpArgs false
set_option linter.unusedVariables false
def cS (s : Tclub_stay) : Tgleeref2_stay := ⟨s.since, s.till, s.cents⟩
def cM (m : Motn) : Bool × List ByteArray × List (ByteArray × Bool) := (!m.1, m.2.2, m.2.1)
abbrev cSt (st : Stays) : List (ByteArray × List Tgleeref2_stay) := mpV (List.map cS) st
abbrev cMo (mo : Mots) : List (ByteArray × (Bool × List ByteArray × List (ByteArray × Bool))) := mpV cM mo
theorem row_conv (st : Stays) (k : ByteArray) : (lkM (cSt st) k).getD [] = (rowOf st k).map cS := by
  unfold rowOf
  rw [lkM_map]
  cases lkM st k <;> rfl
theorem keys_conv (st : Stays) : (cSt st).map Prod.fst = st.map Prod.fst := by
  unfold cSt mpV
  rw [List.map_map]; rfl
theorem last_conv {r : List Tclub_stay} (h : 0 < r.length) (hl : r.length ≤ 1000000) : ∃ s, r.getLast? = some s ∧ getI (r.map cS) (w64 (((r.map cS).length : Int) - 1)) = some (cS s) ∧ (w64 (((r.map cS).length : Int) - 1)).toNat = r.length - 1 := by
  obtain ⟨s, e1, e2, e3⟩ := last_get h hl
  rw [List.length_map]
  exact ⟨s, e1, by rw [getI_map, e2]; rfl, e3⟩
theorem member_ref (st : Stays) (pd : List (ByteArray × Int)) (po : List (ByteArray × (Bool × List ByteArray × List (ByteArray × Bool)))) (rf : List Int) (k : ByteArray) (h : (rowOf st k).length ≤ 1000000) : m_gleeref2_hall_member (cSt st) pd po rf k = some (memK st k) := by
  unfold m_gleeref2_hall_member memK
  rw [row_conv]
  by_cases h0 : 0 < (rowOf st k).length
  · obtain ⟨s, e1, e2, -⟩ := last_conv h0 h
    rw [decide_eq_true (by simp; omega), ifB_true, e2, e1]; rfl
  · have : rowOf st k = [] := List.eq_nil_of_length_eq_zero (by omega)
    rw [this]; rfl
theorem members_ref (st : Stays) (pd : List (ByteArray × Int)) (po : List (ByteArray × (Bool × List ByteArray × List (ByteArray × Bool)))) (rf : List Int) (h : ∀ k, (rowOf st k).length ≤ 1000000) (hl : st.length ≤ 1000000) : m_gleeref2_hall_members (cSt st) pd po rf = some (membersOf st) := by
  unfold m_gleeref2_hall_members
  refine anyOrd_of fun L hL => ?_
  rw [keys_conv] at hL
  have hLl : L.length = st.length := by rw [hL.length_eq, List.length_map]
  rw [rangeM_filterMap _ (fun x => if memK st x then some x else none) _ (by
    intro i x s hx hs
    have hi := (List.getElem?_eq_some_iff.1 hx).1
    unfold m_gleeref2_hall_members_l1
    rw [member_ref _ _ _ _ _ (h x), Option.bind_some]
    cases hm : memK st x
    · simp
    · rw [ifB_true, appM_of (by simp; omega) (by omega)]; simp), Option.bind_some, fin_brk]
  have e1 : (L.filterMap fun x => if memK st x then some x else none) = L.filter (memK st) := by
    rw [← List.filterMap_eq_filter]
    congr 1
  rw [e1, Sort_K _ (Nat.le_trans (List.length_filter_le ..) (by omega)), Option.bind_some, sortK_filter hL]
  rfl
theorem putS (st : Stays) (k : ByteArray) (r : List Tclub_stay) (r' : List Tgleeref2_stay) (h : r' = r.map cS) : putM (cSt st) k r' = cSt (putM st k r) := by
  subst h; exact putM_map (List.map cS) st k r
theorem putMo (mo : Mots) (k : ByteArray) (t : Motn) (t' : Bool × List ByteArray × List (ByteArray × Bool)) (h : t' = cM t) : putM (cMo mo) k t' = cMo (putM mo k t) := by
  subst h; exact putM_map cM mo k t
theorem quit_conv (r : List Tclub_stay) (a : Int) (s : Tclub_stay) (h : r.getLast? = some s) : (r.map cS).set (r.length - 1) ⟨s.since, a, s.cents⟩ = (quitRow r a).map cS := by
  unfold quitRow
  rw [h]
  simp only [List.map_set]; rfl
theorem hasM_conv {V V' : Type} (f : V → V') (l : List (ByteArray × V)) (k : ByteArray) (h : hasM l k = true) : hasM (mpV f l) k = true := by rw [hasM_map]; exact h
theorem follow_ref (st : Stays) (pd : List (ByteArray × Int)) (mo : Mots) (rf : List Int) (x : TAct) (h : ∀ k, (rowOf st k).length ≤ 1000000) (hl : st.length ≤ 1000000) :
    m_gleeref2_hall_follow (cSt st) pd (cMo mo) rf x = some (if perm st mo x = true then (true, cSt (actB st pd mo x).1, (actB st pd mo x).2.1, cMo (actB st pd mo x).2.2) else (false, cSt st, pd, cMo mo)) := by
  unfold m_gleeref2_hall_follow
  have hm := member_ref st pd (cMo mo) rf x.Who (h _)
  have hk : lkM (cMo mo) x.Motion = (lkM mo x.Motion).map cM := lkM_map cM mo x.Motion
  have happ : appM 24 ((rowOf st x.Who).map cS) [(Tgleeref2_stay.mk x.At (-1) x.Cents)] = some ((rowOf st x.Who ++ [Tclub_stay.mk x.At (-1) x.Cents]).map cS) := by
    rw [appM_of (by have := h x.Who; simp; omega) (by omega)]; simp [cS]
  have hput : putM (cSt st) x.Who ((rowOf st x.Who ++ [Tclub_stay.mk x.At (-1) x.Cents]).map cS) = cSt (putM st x.Who (rowOf st x.Who ++ [Tclub_stay.mk x.At (-1) x.Cents])) := putS _ _ _ _ rfl
  rw [hm, row_conv, happ, hk, members_ref st pd (cMo mo) rf h hl]
  simp only [Option.bind_some, hput]
  -- quitting
  have hq : memK st x.Who = true → ((getI ((rowOf st x.Who).map cS) (w64 ((((rowOf st x.Who).map cS).length : Int) - 1))).bind fun e20 => some (true, repM (cSt st) x.Who (((rowOf st x.Who).map cS).set ((w64 ((((rowOf st x.Who).map cS).length : Int) - 1)).toNat) (Tgleeref2_stay.mk e20.from_ x.At e20.cents)), pd, cMo mo)) = some (true, cSt (putM st x.Who (quitRow (rowOf st x.Who) x.At)), pd, cMo mo) := by
    intro hmk
    obtain ⟨s, e1, e2, e3, e4⟩ := memK_row hmk
    obtain ⟨s', f1, f2, f3⟩ := last_conv e4 (h x.Who)
    rw [e1] at f1; cases f1
    rw [f2, Option.bind_some, f3, ← repM_put (hasM_conv _ _ _ e3)]
    rw [show (Tgleeref2_stay.mk (cS s).from_ x.At (cS s).cents) = ⟨s.since, x.At, s.cents⟩ from rfl, quit_conv _ _ _ e1, putS _ _ _ _ rfl]
  unfold perm actB
  cases h1 : x.Kind == 1
  case true =>
    cases lkM mo x.Motion <;> cases memK st x.Who <;> rfl
  cases h2 : x.Kind == 2
  case true =>
    cases hmk : memK st x.Who
    · cases lkM mo x.Motion <;> rfl
    · have hq := hq hmk
      cases hlk : lkM mo x.Motion <;> simp only [Option.map_none, Option.map_some, optB_none, optB_some, ifB_false, ifB_true, cond_false, cond_true, Bool.not_true, if_true] <;> exact hq
  cases h3 : x.Kind == 3
  case true =>
    cases h4 : x.Kind == 4
    · cases h5 : x.Kind == 5
      · cases h6 : x.Kind == 6
        · cases lkM mo x.Motion <;> rfl
        · simp at h3 h6; omega
      · simp at h3 h5; omega
    · simp at h3 h4; omega
  cases h4 : x.Kind == 4
  case true =>
    cases hlk : lkM mo x.Motion with
    | none =>
      simp only [Option.map_none, optB_none, ifB_false, ifB_true, cond_false, cond_true, Option.isNone_none, if_true]
      rw [putMo mo x.Motion (false, [], []) (true, [], []) rfl]
    | some t => rfl
  cases h5 : x.Kind == 5
  case true =>
    cases hlk : lkM mo x.Motion with
    | none =>
      have ho : openM mo x.Motion = false := by unfold openM; rw [hlk]
      simp only [Option.map_none, optB_none, ifB_false, ifB_true, cond_false, cond_true, Option.bind_some, fin_inl, ho, Bool.and_false]; rfl
    | some t =>
      have ho : openM mo x.Motion = !t.1 := by unfold openM; rw [hlk]
      obtain ⟨t1, t2, t3⟩ := t
      simp only [Option.map_some, optB_some, ifB_false, ifB_true, cond_false, cond_true, ho, cM]
      cases t1
      · cases hmk : memK st x.Who
        · rfl
        · simp only [Bool.not_false, Bool.not_true, ifB_false, Option.bind_some, fin_inl, Bool.and_true, if_true]
          rw [← repM_put (hasM_conv cM mo _ (hasM_of hlk)), putMo mo x.Motion (false, putM t2 x.Who x.Yes, t3) (true, t3, putM t2 x.Who x.Yes) rfl]
      · cases hmk : memK st x.Who <;> rfl
  cases h6 : x.Kind == 6
  case true =>
    cases hlk : lkM mo x.Motion with
    | none =>
      have ho : openM mo x.Motion = false := by unfold openM; rw [hlk]
      simp only [Option.map_none, optB_none, ifB_false, ifB_true, cond_false, cond_true, Option.bind_some, fin_inl, ho]; rfl
    | some t =>
      have ho : openM mo x.Motion = !t.1 := by unfold openM; rw [hlk]
      obtain ⟨t1, t2, t3⟩ := t
      simp only [Option.map_some, optB_some, ifB_false, ifB_true, cond_false, cond_true, ho, cM]
      cases t1
      · simp only [Bool.not_false, Bool.not_true, ifB_false, Option.bind_some, fin_inl, if_true]
        rw [← repM_put (hasM_conv cM mo _ (hasM_of hlk)), putMo mo x.Motion (true, t2, membersOf st) (false, membersOf st, t2) rfl]
      · rfl
  cases lkM mo x.Motion <;> rfl
theorem hallL1 (l : List TAct) (s : Bk) (i : Nat) (z : Nat) (x : TAct) (hx : l[z]? = some x) (n : Nat) (h : BOK n s) (hn : n ≤ 100000) :
    m_gleeref2_hallAt_l1 l i (z : Int) (cMo s.mo, s.pd, cSt s.st, s.rf) = some (.nxt (cMo (stepX s z x).mo, (stepX s z x).pd, cSt (stepX s z x).st, (stepX s z x).rf)) := by
  have hg : getI l (z : Int) = some x := getI_of rfl hx
  have hrow : ∀ k, (rowOf s.st k).length ≤ 1000000 := fun k => by have := h.row k; omega
  have hlen := h.len; have hf := h.rf
  unfold m_gleeref2_hallAt_l1 stepX
  rw [hg, Option.bind_some, follow_ref _ _ _ _ _ hrow (by omega), Option.bind_some]
  cases hp : perm s.st s.mo x
  · simp only [Bool.false_eq_true, if_false, Bool.not_false, ifB_true]
    rw [appM_of (by simp; omega) (by omega), Option.bind_some]
  · simp only [if_true, Bool.not_true, ifB_false]
theorem hallAt_spec (l : List TAct) (at_ : Int) (hl : ActsOK l) : m_gleeref2_hallAt l at_ = some (cSt (booksOf l at_).st, (booksOf l at_).pd, cMo (booksOf l at_).mo, (booksOf l at_).rf) := by
  have hlen := hl.len
  have hc := cntIx_len at_ l 0
  have key : ∀ (t : List Int) (i : Nat) (s : Bk) (n : Nat), (∀ z ∈ t, ∃ j : Nat, z = (j : Int) ∧ j < l.length) → BOK n s → n + t.length ≤ 2000 →
      rangeM (m_gleeref2_hallAt_l1 l) i t (cMo s.mo, s.pd, cSt s.st, s.rf) = some (.brk (cMo (t.foldl (stepB l) s).mo, (t.foldl (stepB l) s).pd, cSt (t.foldl (stepB l) s).st, (t.foldl (stepB l) s).rf)) := by
    intro t
    induction t with
    | nil => intro i s n _ hb _; rfl
    | cons z t ih =>
      intro i s n hz hb hn
      simp only [List.length_cons] at hn
      obtain ⟨j, rfl, hj⟩ := hz z (List.mem_cons_self ..)
      have hx : l[j]? = some (l[j]'hj) := List.getElem?_eq_getElem hj
      have e1 : stepB l s (j : Int) = stepX s j (l[j]'hj) := by unfold stepB; rw [Int.toNat_natCast, hx]
      have g1 := ih (i + 1) (stepX s j (l[j]'hj)) (n + 1) (fun z hz' => hz z (List.mem_cons_of_mem _ hz')) (hb.step _ _) (by omega)
      rw [rangeM_cons, hallL1 l s i j _ hx n hb (by omega), Option.bind_some, run_nxt, List.foldl_cons, e1]
      exact g1
  have g1 := key (cntIx at_ 0 l) 0 ⟨[], [], [], []⟩ 0 (fun z hz => by
    obtain ⟨j, rfl, hj⟩ := cntIx_mem at_ l 0 z hz
    exact ⟨0 + j, rfl, by omega⟩) ⟨fun k => by simp [rowOf, lkM], by simp, by simp⟩ (by omega)
  unfold m_gleeref2_hallAt
  rw [CountingOf_spec l at_ hl, Option.bind_some, show (([], [], [], []) : _ × _ × _ × _) = (cMo [], ([] : List (ByteArray × Int)), cSt [], ([] : List Int)) from rfl, g1]; rfl
end Go.G
