/- LMr: MoneyReckoned's law: Due, Balance, Owing and Purse answer as the reference. In plain Lean, no program in sight. -/
import Derived.Test.YtobglahldcnnmaaGreatDoorLMd
import Derived.Test.YtobglahldcnnmaaGreatDoorLY5
import Derived.Test.YtobglahldcnnmaaGreatDoorLY6n
import Derived.Test.YtobglahldcnnmaaGreatDoorLYp
import Derived.Test.YtobglahldcnnmaaGreatDoorLE1
namespace Go.G
open Go Go.J
set_option linter.unusedSimpArgs false
set_option linter.unusedVariables false
/-! what is due, as the reference reckons it: month by month -/
theorem dueL2 (a f t c u m : Int) : m_gleeref2_hall_due_l2 a ⟨f, t, c⟩ (u, m) = (ifB (decide (m ≤ a)) (ifB (decide (t < 0)) (some (.inl true)) (some (.inl (decide (m < t))))) (some (.inl false)) : Option (Bool ⊕ (Flow (Int × Int) (Flow Int Int)))).bind fun k15 => Sum.fin k15 fun u13 => ifB u13 (some (.nxt (w64 (u + c), w64 (m + 2592000000)))) (some (.brk (u, m))) := rfl
theorem dueW {a : Int} {y : Tclub_stay} (h : StayOK a y) (ha : a ≤ 345686399999) : ∀ (d j : Nat) (u : Int), ((j : Int) + d = monthsS a y) → 0 ≤ u → u + d * y.cents ≤ 4000000000000000000 →
    ∃ m, loopM (m_gleeref2_hall_due_l2 a (cS y)) (u, y.since + j * 2592000000) = some (.brk (u + d * y.cents, m)) := by
  obtain ⟨m1, m2⟩ := months_rng h ha
  have h' := h
  unfold StayOK at h'
  have hN : monthsS a y = if y.till < 0 then (a - y.since) / 2592000000 + 1 else (y.till - y.since + 2591999999) / 2592000000 := rfl
  intro d
  induction d with
  | zero =>
    intro j u hj hu hb
    refine ⟨y.since + j * 2592000000, ?_⟩
    have hs : m_gleeref2_hall_due_l2 a (cS y) (u, y.since + j * 2592000000) = some (.brk (u, y.since + j * 2592000000)) := by
      rw [show cS y = ⟨y.since, y.till, y.cents⟩ from rfl, dueL2]
      by_cases ht : y.till < 0
      · rw [if_pos ht] at hN
        rw [decide_eq_false (by omega), ifB_false]; rfl
      · rw [if_neg ht] at hN
        rw [decide_eq_false ht, ifB_false, decide_eq_false (show ¬ y.since + j * 2592000000 < y.till by omega)]
        cases decide (y.since + (j : Int) * 2592000000 ≤ a) <;> rfl
    rw [loopM_step hs]
    simp
  | succ d ih =>
    intro j u hj hu hb
    have hc := h'.2.2.2
    have e1 : (((d + 1 : Nat) : Int)) * y.cents = y.cents + d * y.cents := by rw [Int.natCast_add, Int.add_mul]; omega
    have hdc : 0 ≤ (d : Int) * y.cents := Int.mul_nonneg (by omega) hc.1
    rw [e1] at hb ⊢
    obtain ⟨m, hm⟩ := ih (j + 1) (u + y.cents) (by omega) (by omega) (by omega)
    refine ⟨m, ?_⟩
    have hs : m_gleeref2_hall_due_l2 a (cS y) (u, y.since + j * 2592000000) = some (.nxt (u + y.cents, y.since + ((j + 1 : Nat) : Int) * 2592000000)) := by
      rw [show cS y = ⟨y.since, y.till, y.cents⟩ from rfl, dueL2]
      have hle : y.since + (j : Int) * 2592000000 ≤ a := by
        by_cases ht : y.till < 0
        · rw [if_pos ht] at hN; omega
        · rw [if_neg ht] at hN; omega
      have e2 : w64 (y.since + (j : Int) * 2592000000 + 2592000000) = y.since + ((j + 1 : Nat) : Int) * 2592000000 := by rw [w64_id (by omega)]; omega
      rw [decide_eq_true hle, ifB_true, e2, w64_id (by omega)]
      by_cases ht : y.till < 0
      · rw [decide_eq_true ht]; rfl
      · rw [if_neg ht] at hN
        rw [decide_eq_false ht, decide_eq_true (show y.since + (j : Int) * 2592000000 < y.till by omega)]; rfl
    rw [loopM_step hs]
    simp only [Flow.run]
    rw [hm, Int.add_assoc]
theorem dueR1 {a : Int} {y : Tclub_stay} (h : StayOK a y) (ha : a ≤ 345686399999) (i : Nat) (u : Int) (hu : 0 ≤ u) (hu' : u ≤ 3000000000000000000) : m_gleeref2_hall_due_l1 a i (cS y) u = some (.nxt (u + dueS a y)) := by
  obtain ⟨m1, m2⟩ := months_rng h ha
  obtain ⟨d1, d2⟩ := dueS_rng h ha
  obtain ⟨d, hd⟩ := Int.eq_ofNat_of_zero_le m1
  have e : (d : Int) * y.cents = dueS a y := by unfold dueS; rw [hd]
  obtain ⟨m, hm⟩ := dueW h ha d 0 u (by rw [hd]; simp) hu (by rw [e]; omega)
  unfold m_gleeref2_hall_due_l1
  rw [show (cS y).from_ = y.since + ((0 : Nat) : Int) * 2592000000 by simp [cS], hm, e]; rfl
theorem dueR_loop {a : Int} (ha : a ≤ 345686399999) : ∀ (t : List Tclub_stay) (i : Nat) (u : Int), (∀ y ∈ t, StayOK a y) → 0 ≤ u → u + 134000000000 * (t.length : Int) ≤ 3000000000000000000 →
    rangeM (m_gleeref2_hall_due_l1 a) i (t.map cS) u = some (.brk (u + dueL a t)) := by
  intro t
  induction t with
  | nil => intro i u _ _ _; simp [dueL]
  | cons y t ih =>
    intro i u h hu hb
    have hy := h y (List.mem_cons_self ..)
    obtain ⟨d1, d2⟩ := dueS_rng hy ha
    simp only [List.length_cons] at hb
    have g1 := ih (i + 1) (u + dueS a y) (fun z hz => h z (List.mem_cons_of_mem _ hz)) (by omega) (by omega)
    rw [List.map_cons, rangeM_cons, dueR1 hy ha i u hu (by omega), Option.bind_some, run_nxt, g1]
    simp only [dueL]
    rw [Int.add_assoc]
theorem due_ref {a : Int} {s : Bk} (h : PInv a 2000 s) (hb : BOK 2000 s) (ha : a ≤ 345686399999) (pd : List (ByteArray × Int)) (po : List (ByteArray × (Bool × List ByteArray × List (ByteArray × Bool)))) (rf : List Int) (k : ByteArray) :
    m_gleeref2_hall_due (cSt s.st) pd po rf k a = some (dueL a (rowOf s.st k)) := by
  have hr := hb.row k
  unfold m_gleeref2_hall_due
  rw [row_conv, dueR_loop ha (rowOf s.st k) 0 0 (h.stays k) (Int.le_refl _) (by omega), Option.bind_some, fin_brk, Int.zero_add]
/-! balances -/
structure GoodB (a : Int) (s : Bk) : Prop where
  p : PInv a 2000 s
  b : BOK 2000 s
  a1 : 0 ≤ a
  a2 : a ≤ 345686399999
def balK (a : Int) (s : Bk) (k : ByteArray) : Int × Int := balOf (dueL a (rowOf s.st k)) (paidOf s.pd k)
theorem bal_e (a : Int) (s : Bk) (k : ByteArray) : (balK a s k).2 = 0 ∨ (balK a s k).2 = 12 := by unfold balK balOf; split <;> simp
theorem bal_rng {a : Int} {s : Bk} (h : GoodB a s) (k : ByteArray) : -268000000000000 ≤ (balK a s k).1 ∧ (balK a s k).1 ≤ 2000000000000 := by
  obtain ⟨-, g2, g3⟩ := due_spec h.p h.b h.a2 k
  obtain ⟨p1, p2⟩ := paid_rng h.p k
  unfold balK balOf
  split <;> simp only <;> omega
theorem bal_spec {a : Int} {s : Bk} (h : GoodB a s) (k : ByteArray) : m_club_books_balance a s.st s.pd s.mo s.rf k = some (balK a s k) := balance_spec h.p h.b h.a2 k
def dueK (a : Int) (s : Bk) (k : ByteArray) : Int × Int := if dueL a (rowOf s.st k) > 1000000000000 then (0, 12) else (dueL a (rowOf s.st k), 0)
theorem DueOf_spec {l : List TAct} {a : Int} (hl : ActsOK l) (h : GoodB a (booksOf l a)) (k : ByteArray) : m_gleeref2_DueOf l k a = some (dueK a (booksOf l a) k) := by
  unfold m_gleeref2_DueOf
  rw [hallAt_spec l a hl, Option.bind_some]
  simp only
  rw [due_ref h.p h.b h.a2, Option.bind_some, ifB_ite]
  unfold dueK
  split <;> rfl
theorem BalanceOf_spec {l : List TAct} {a : Int} (hl : ActsOK l) (h : GoodB a (booksOf l a)) (k : ByteArray) : m_gleeref2_BalanceOf l k a = some (balK a (booksOf l a) k) := by
  obtain ⟨-, d1, d2⟩ := due_spec h.p h.b h.a2 k
  obtain ⟨p1, p2⟩ := paid_rng h.p k
  unfold m_gleeref2_BalanceOf
  rw [DueOf_spec hl h, Option.bind_some, hallAt_spec l a hl, Option.bind_some]
  simp only
  rw [show (lkM (booksOf l a).pd k).getD 0 = paidOf (booksOf l a).pd k from rfl]
  unfold balK balOf dueK
  by_cases h1 : dueL a (rowOf (booksOf l a).st k) > 1000000000000
  · rw [if_pos h1, if_pos (.inl h1)]; rfl
  · rw [if_neg h1]
    simp only
    rw [show ((0 : Int) == 0) = true from rfl, ifB_true, Option.bind_some, fin_inl]
    by_cases h2 : paidOf (booksOf l a).pd k > 1000000000000
    · rw [if_pos (.inr h2), decide_eq_false (by omega), ifB_false]
    · rw [if_neg (by omega), decide_eq_true (by omega), ifB_true, w64_id (by omega)]
/-! who owes -/
def debtOf (a m : Int) (s : Bk) (k : ByteArray) : Option Tclub_debt := if -(balK a s k).1 ≥ m then some ⟨k, -(balK a s k).1⟩ else none
theorem owing_good {a m : Int} {s : Bk} (h : GoodB a s) : ∀ (L : List ByteArray) (i : Nat) (u : List Tclub_debt), (∀ k ∈ L, (balK a s k).2 = 0) → u.length + L.length ≤ 1000 → rangeM (m_club_books_owing_l1 a s.st s.pd s.mo s.rf m) i L u = some (.brk (u ++ L.filterMap (debtOf a m s))) := by
  intro L
  induction L with
  | nil => intro i u _ _; simp
  | cons k L ih =>
    intro i u hk hu
    simp only [List.length_cons] at hu
    have h0 := hk k (List.mem_cons_self ..)
    obtain ⟨r1, r2⟩ := bal_rng h k
    have hs : m_club_books_owing_l1 a s.st s.pd s.mo s.rf m i k u = some (.nxt (u ++ (debtOf a m s k).toList)) := by
      unfold m_club_books_owing_l1 debtOf
      rw [bal_spec h, Option.bind_some, h0, show ((0 : Int) != 0) = false from rfl, ifB_false, w64_id (by omega)]
      by_cases hd : 0 - (balK a s k).1 ≥ m
      · rw [decide_eq_true hd, ifB_true, appM_of (by simp; omega) (by omega), if_pos (by omega)]
        simp only [Option.bind_some, Option.toList_some, Int.zero_sub]
      · rw [decide_eq_false hd, ifB_false, if_neg (by omega)]; simp
    rw [rangeM_cons, hs, Option.bind_some, run_nxt, ih (i + 1) _ (fun z hz => hk z (List.mem_cons_of_mem _ hz)) (by cases hdo : debtOf a m s k <;> simp <;> omega)]
    cases hdo : debtOf a m s k <;> simp [List.filterMap_cons, hdo]
theorem owing_bad {a m : Int} {s : Bk} (h : GoodB a s) : ∀ (L : List ByteArray) (i : Nat) (u : List Tclub_debt), (∃ k ∈ L, (balK a s k).2 ≠ 0) → u.length + L.length ≤ 1000 → rangeM (m_club_books_owing_l1 a s.st s.pd s.mo s.rf m) i L u = some (.ret ([], 12)) := by
  intro L
  induction L with
  | nil => intro i u ⟨k, hk, _⟩ _; cases hk
  | cons k L ih =>
    intro i u hk hu
    simp only [List.length_cons] at hu
    obtain ⟨r1, r2⟩ := bal_rng h k
    rcases bal_e a s k with h0 | h0
    · have hk' : ∃ z ∈ L, (balK a s z).2 ≠ 0 := by
        obtain ⟨z, hz, hne⟩ := hk
        rcases List.mem_cons.1 hz with rfl | hz
        · exact (hne h0).elim
        · exact ⟨z, hz, hne⟩
      have hs : ∃ v : List Tclub_debt, m_club_books_owing_l1 a s.st s.pd s.mo s.rf m i k u = some (.nxt v) ∧ v.length ≤ u.length + 1 := by
        unfold m_club_books_owing_l1
        rw [bal_spec h, Option.bind_some, h0, show ((0 : Int) != 0) = false from rfl, ifB_false]
        cases decide (w64 (0 - (balK a s k).1) ≥ m)
        · exact ⟨u, rfl, by omega⟩
        · rw [ifB_true, appM_of (by simp; omega) (by omega)]; exact ⟨_, rfl, by simp⟩
      obtain ⟨v, hs, hv⟩ := hs
      rw [rangeM_cons, hs, Option.bind_some, run_nxt, ih (i + 1) v hk' (by omega)]
    · have hs : m_club_books_owing_l1 a s.st s.pd s.mo s.rf m i k u = some (.ret ([], 12)) := by
        unfold m_club_books_owing_l1
        rw [bal_spec h, Option.bind_some, h0]; rfl
      rw [rangeM_cons, hs]; rfl
def toPr (x : Tclub_debt) : TPair := ⟨x.who, ⟨(Lib.itoa x.cents).toArray⟩⟩
theorem Itoa_in {n : Int} (h : -9223372036854775808 ≤ n ∧ n ≤ 9223372036854775807) : m_strconv_Itoa n = some ⟨(Lib.itoa n).toArray⟩ := by unfold m_strconv_Itoa; rw [if_pos h]
noncomputable def owedOf (a m : Int) (s : Bk) : List TPair := (((s.st.map Prod.fst).filterMap (debtOf a m s)).foldl (ins ltS) []).map toPr
theorem debt_who {a m : Int} {s : Bk} {k : ByteArray} {x : Tclub_debt} (h : debtOf a m s k = some x) : x = ⟨k, -(balK a s k).1⟩ ∧ -(balK a s k).1 ≥ m := by
  unfold debtOf at h
  split at h
  · rename_i g; cases h; exact ⟨rfl, g⟩
  · cases h
theorem debts_nodup (a m : Int) (s : Bk) : ∀ (L : List ByteArray), L.Nodup → ((L.filterMap (debtOf a m s)).map (·.who)).Nodup := by
  intro L
  induction L with
  | nil => intro _; simp
  | cons k L ih =>
    intro hn
    rw [List.nodup_cons] at hn
    rw [List.filterMap_cons]
    cases hd : debtOf a m s k with
    | none => exact ih hn.2
    | some x =>
      simp only [List.map_cons, List.nodup_cons]
      refine ⟨fun hm => ?_, ih hn.2⟩
      obtain ⟨y, hy, e⟩ := List.mem_map.1 hm
      obtain ⟨j, hj, hd'⟩ := List.mem_filterMap.1 hy
      have e1 := (debt_who hd).1
      have e2 := (debt_who hd').1
      rw [e1, e2] at e
      simp only at e
      exact hn.1 (e ▸ hj)
theorem st_len {a : Int} {s : Bk} (h : GoodB a s) : s.st.length ≤ 3 := by
  have := List.Nodup.length_le_of_subset h.p.sk (l₂ := who3) fun k hk => by
    obtain ⟨p, hp, rfl⟩ := List.mem_map.1 hk
    exact h.p.sm p hp
  simpa [who3] using this
theorem debt_rng {a m : Int} {s : Bk} (h : GoodB a s) (hm : 1 ≤ m) {L : List ByteArray} : ∀ x ∈ L.filterMap (debtOf a m s), 1 ≤ x.cents ∧ x.cents ≤ 268000000000000 := fun x hx => by
  obtain ⟨k, -, hd⟩ := List.mem_filterMap.1 hx
  obtain ⟨rfl, g⟩ := debt_who hd
  have := bal_rng h k
  exact ⟨by simp only; omega, by simp only; omega⟩
open Classical in
noncomputable def owingK (a m : Int) (s : Bk) : List TPair × Int := if ∀ k ∈ s.st.map Prod.fst, (balK a s k).2 = 0 then (owedOf a m s, 0) else ([], 12)
theorem not_all {a : Int} {s : Bk} (hall : ¬ ∀ k ∈ s.st.map Prod.fst, (balK a s k).2 = 0) : ∃ k ∈ s.st.map Prod.fst, (balK a s k).2 ≠ 0 := by
  refine Classical.byContradiction fun hno => hall fun k hk => ?_
  exact Classical.byContradiction fun hne => hno ⟨k, hk, hne⟩
theorem owing_spec {a m : Int} {s : Bk} (h : GoodB a s) (hm : 1 ≤ m) : m_club_books_owing a s.st s.pd s.mo s.rf m = some (owingK a m s) := by
  have hlen := st_len h
  unfold owingK
  by_cases hall : ∀ k ∈ s.st.map Prod.fst, (balK a s k).2 = 0
  · rw [if_pos hall]
    unfold m_club_books_owing
    refine anyOrd_of fun L hL => ?_
    have hLl : L.length ≤ 3 := by rw [hL.length_eq, List.length_map]; exact hlen
    rw [owing_good h L 0 [] (fun k hk => hall k (hL.subset hk)) (by simp; omega), Option.bind_some, fin_brk, List.nil_append]
    have hpf := hL.filterMap (debtOf a m s)
    have hfl : (L.filterMap (debtOf a m s)).length ≤ 3 := Nat.le_trans (List.length_filterMap_le ..) hLl
    rw [sortD _ (by omega), Option.bind_some, debts_one hpf (debts_nodup a m s _ h.p.sk)]
    have hdl : (((s.st.map Prod.fst).filterMap (debtOf a m s)).foldl (ins ltS) []).length ≤ 3 := by
      rw [(debts_perm _).length_eq, ← hpf.length_eq]; exact hfl
    have hc : ∀ x ∈ ((s.st.map Prod.fst).filterMap (debtOf a m s)).foldl (ins ltS) [], 1 ≤ x.cents ∧ x.cents ≤ 268000000000000 := fun x hx => debt_rng h hm x ((debts_perm _).subset hx)
    unfold owedOf
    generalize ((s.st.map Prod.fst).filterMap (debtOf a m s)).foldl (ins ltS) [] = D at hdl hc ⊢
    obtain ⟨u, g1, g2⟩ := rangeM_invx m_club_books_owing_l2 D (fun i u => u = (D.take i).map toPr) (by
      rintro i x u hx rfl
      have hi := (List.getElem?_eq_some_iff.1 hx).1
      have := hc x (List.mem_of_getElem? hx)
      unfold m_club_books_owing_l2
      rw [Itoa_in (by omega), Option.bind_some, appM_of (by simp; omega) (by omega), Option.bind_some]
      exact ⟨_, rfl, by rw [List.take_add_one, hx]; simp [toPr]⟩) [] rfl
    rw [g1, Option.bind_some, fin_brk, g2, List.take_length]
  · rw [if_neg hall]
    unfold m_club_books_owing
    refine anyOrd_of fun L hL => ?_
    have hLl : L.length ≤ 3 := by rw [hL.length_eq, List.length_map]; exact hlen
    obtain ⟨k, hk, hne⟩ := not_all hall
    rw [owing_bad h L 0 [] ⟨k, hL.symm.subset hk, hne⟩ (by simp; omega)]; rfl
/-! .. as the reference tells it -/
theorem ins_map {α β : Type} (f : α → β) (lt : α → α → Bool) (lt' : β → β → Bool) (h : ∀ x y, lt' (f x) (f y) = lt x y) (p : List α) (x : α) : (ins lt p x).map f = ins lt' (p.map f) (f x) := by
  have hr : ∀ q : List α, (insRev lt q x).map f = insRev lt' (q.map f) (f x) := by
    intro q
    induction q with
    | nil => rfl
    | cons y q ih =>
      rw [insRev_cons, List.map_cons, insRev_cons, h]
      cases lt x y
      · simp
      · simp [ih]
  unfold ins
  rw [List.map_reverse, hr, List.map_reverse]
theorem fold_ins_map {α β : Type} (f : α → β) (lt : α → α → Bool) (lt' : β → β → Bool) (h : ∀ x y, lt' (f x) (f y) = lt x y) : ∀ (q p : List α), (q.foldl (ins lt) p).map f = (q.map f).foldl (ins lt') (p.map f)
  | [], p => rfl
  | x :: q, p => by rw [List.foldl_cons, List.map_cons, List.foldl_cons, fold_ins_map f lt lt' h q, ins_map f lt lt' h]
abbrev MS := List (ByteArray × Int)
def dbt (M : MS) (k : ByteArray) : Tclub_debt := ⟨k, (lkM M k).getD 0⟩
def ltN (M : MS) (x y : ByteArray) : Bool := ltS (dbt M x) (dbt M y)
theorem cmpN_spec (M : MS) (hM : ∀ k, 0 ≤ (lkM M k).getD 0 ∧ (lkM M k).getD 0 ≤ 268000000000000) (x y : ByteArray) : ∃ c, m_gleeref2_OwingOf_1 x y M = some c ∧ decide (c < 0) = ltN M x y := by
  have hx := hM x; have hy := hM y
  unfold m_gleeref2_OwingOf_1 ltN ltS dbt
  simp only
  generalize (lkM M x).getD 0 = p at hx ⊢
  generalize (lkM M y).getD 0 = q at hy ⊢
  by_cases h : p = q
  · subst h
    rw [show (p != p) = false by simp, ifB_false]
    unfold m_strings_Compare
    refine ⟨_, rfl, ?_⟩
    rw [decide_eq_false (show ¬ p < p by omega), decide_eq_true (rfl : p = p), Bool.true_and, Bool.false_or]
    show decide (Lib.compareBytes (bytesOf x) (bytesOf y) < 0) = _
    rcases cb_spec (bytesOf x) (bytesOf y) with ⟨h3, -⟩ | ⟨h3, -⟩ | ⟨h3, -⟩ <;> rw [h3] <;> rfl
  · rw [show (p != q) = true by simpa using h, ifB_true, sign_sub (by omega) (by omega), Option.bind_some]
    refine ⟨_, rfl, ?_⟩
    rw [decide_eq_false (show ¬ q = p by omega), Bool.false_and, Bool.or_false]
    unfold cI
    by_cases h2 : q < p
    · rw [decide_eq_true h2]; rfl
    · rw [decide_eq_false h2, decide_eq_true (show p < q by omega)]; rfl
theorem insN (M : MS) (u : List ByteArray) (a b : Int) : m_slices_insertionSortCmpFunc_string__gleeref2_OwingOf_1 u a b M = isM (fun x y => m_gleeref2_OwingOf_1 x y M) u a b := rfl
theorem sortN (M : MS) (hM : ∀ k, 0 ≤ (lkM M k).getD 0 ∧ (lkM M k).getD 0 ≤ 268000000000000) (u : List ByteArray) (h : u.length ≤ 12) : m_slices_SortFunc_string_string__gleeref2_OwingOf_1 u M = some (u.foldl (ins (ltN M)) []) := by
  have hs : isM (fun x y => m_gleeref2_OwingOf_1 x y M) u 0 (u.length : Int) = some (u.foldl (ins (ltN M)) []) := isM_ins (ltN M) _ u (by omega) fun x _ y _ => cmpN_spec M hM x y
  unfold m_slices_SortFunc_string_string__gleeref2_OwingOf_1 m_bits_Len m_bits_Len64
  rw [wrap_len (by omega), if_pos (by omega)]
  simp only [Option.bind_some]
  unfold m_slices_pdqsortCmpFunc_string__gleeref2_OwingOf_1
  have h1 : ∀ k, m_slices_pdqsortCmpFunc_string__gleeref2_OwingOf_1_l1 u 0 (u.length : Int) k M () = some (.ret (u.foldl (ins (ltN M)) [])) := fun k => by
    unfold m_slices_pdqsortCmpFunc_string__gleeref2_OwingOf_1_l1
    rw [w64_id (by omega), decide_eq_true (by omega), ifB_true, insN, hs]; rfl
  rw [loopM_step (h1 _)]; rfl
def mk2 (D : List Tclub_debt) : MS × List ByteArray := (D.map fun x => (x.who, x.cents), D.map (·.who))
theorem mk2_keys (D : List Tclub_debt) : (mk2 D).1.map Prod.fst = D.map (·.who) := by unfold mk2; simp [List.map_map, Function.comp]
theorem owingR_good {l : List TAct} {a m : Int} (hl : ActsOK l) (h : GoodB a (booksOf l a)) : ∀ (L : List ByteArray) (i : Nat) (D : List Tclub_debt), (∀ k ∈ L, (balK a (booksOf l a) k).2 = 0) → L.Nodup → (∀ k ∈ L, k ∉ D.map (·.who)) → D.length + L.length ≤ 1000 →
    rangeM (m_gleeref2_OwingOf_l1 l m a) i L (mk2 D) = some (.brk (mk2 (D ++ L.filterMap (debtOf a m (booksOf l a))))) := by
  intro L
  induction L with
  | nil => intro i D _ _ _ _; simp
  | cons k L ih =>
    intro i D hk hn hd hu
    simp only [List.length_cons] at hu
    rw [List.nodup_cons] at hn
    have h0 := hk k (List.mem_cons_self ..)
    obtain ⟨r1, r2⟩ := bal_rng h k
    have hs : m_gleeref2_OwingOf_l1 l m a i k (mk2 D) = some (.nxt (mk2 (D ++ (debtOf a m (booksOf l a) k).toList))) := by
      unfold m_gleeref2_OwingOf_l1 debtOf
      rw [BalanceOf_spec hl h, Option.bind_some, h0, show ((0 : Int) != 0) = false from rfl, ifB_false, w64_id (by omega)]
      by_cases hd' : 0 - (balK a (booksOf l a) k).1 ≥ m
      · rw [decide_eq_true hd', ifB_true, appM_of (by simp [mk2]; omega) (by omega), if_pos (by omega)]
        have hput : putM (mk2 D).1 k (0 - (balK a (booksOf l a) k).1) = (mk2 D).1 ++ [(k, 0 - (balK a (booksOf l a) k).1)] := by
          unfold putM
          rw [if_neg]
          rw [hasM_lk, lkM_out (by rw [mk2_keys]; exact hd k (List.mem_cons_self ..))]; simp
        simp only [Option.bind_some, Option.toList_some, hput]
        simp [mk2]
      · rw [decide_eq_false hd', ifB_false, if_neg (by omega)]; simp
    rw [rangeM_cons, hs, Option.bind_some, run_nxt, ih (i + 1) _ (fun z hz => hk z (List.mem_cons_of_mem _ hz)) hn.2 (fun z hz hm => ?_) (by cases hdo : debtOf a m (booksOf l a) k <;> simp <;> omega)]
    · cases hdo : debtOf a m (booksOf l a) k <;> simp [List.filterMap_cons, hdo]
    · rw [List.map_append, List.mem_append] at hm
      rcases hm with hm | hm
      · exact hd z (List.mem_cons_of_mem _ hz) hm
      · cases hdo : debtOf a m (booksOf l a) k with
        | none => rw [hdo] at hm; simp at hm
        | some x =>
          rw [hdo] at hm
          simp only [Option.toList_some, List.map_cons, List.map_nil, List.mem_singleton] at hm
          rw [(debt_who hdo).1] at hm
          simp only at hm
          exact hn.1 (hm ▸ hz)
theorem owingR_bad {l : List TAct} {a m : Int} (hl : ActsOK l) (h : GoodB a (booksOf l a)) : ∀ (L : List ByteArray) (i : Nat) (u : MS × List ByteArray), (∃ k ∈ L, (balK a (booksOf l a) k).2 ≠ 0) → u.2.length + L.length ≤ 1000 → rangeM (m_gleeref2_OwingOf_l1 l m a) i L u = some (.ret ([], 12)) := by
  intro L
  induction L with
  | nil => intro i u ⟨k, hk, _⟩ _; cases hk
  | cons k L ih =>
    intro i u hk hu
    simp only [List.length_cons] at hu
    obtain ⟨r1, r2⟩ := bal_rng h k
    rcases bal_e a (booksOf l a) k with h0 | h0
    · have hk' : ∃ z ∈ L, (balK a (booksOf l a) z).2 ≠ 0 := by
        obtain ⟨z, hz, hne⟩ := hk
        rcases List.mem_cons.1 hz with rfl | hz
        · exact (hne h0).elim
        · exact ⟨z, hz, hne⟩
      have hs : ∃ v : MS × List ByteArray, m_gleeref2_OwingOf_l1 l m a i k u = some (.nxt v) ∧ v.2.length ≤ u.2.length + 1 := by
        unfold m_gleeref2_OwingOf_l1
        rw [BalanceOf_spec hl h, Option.bind_some, h0, show ((0 : Int) != 0) = false from rfl, ifB_false]
        cases decide (w64 (0 - (balK a (booksOf l a) k).1) ≥ m)
        · exact ⟨u, rfl, by omega⟩
        · rw [ifB_true, appM_of (by simp; omega) (by omega)]; exact ⟨_, rfl, by simp⟩
      obtain ⟨v, hs, hv⟩ := hs
      rw [rangeM_cons, hs, Option.bind_some, run_nxt, ih (i + 1) v hk' (by omega)]
    · have hs : m_gleeref2_OwingOf_l1 l m a i k u = some (.ret ([], 12)) := by
        unfold m_gleeref2_OwingOf_l1
        rw [BalanceOf_spec hl h, Option.bind_some, h0]; rfl
      rw [rangeM_cons, hs]; rfl
theorem dbt_of {D : List Tclub_debt} (hn : (D.map (·.who)).Nodup) : ∀ x ∈ D, dbt (mk2 D).1 x.who = x := fun x hx => by
  obtain ⟨i, hi, he⟩ := List.getElem_of_mem hx
  have hk : ((mk2 D).1.map Prod.fst).Nodup := by rw [mk2_keys]; exact hn
  have := lkM_some (l := (mk2 D).1) hk i (k := x.who) (v := x.cents) (by
    unfold mk2
    rw [List.getElem?_map, List.getElem?_eq_getElem hi, he]; rfl)
  unfold dbt
  rw [this]; rfl
theorem OwingOf_spec {l : List TAct} {a m : Int} (hl : ActsOK l) (h : GoodB a (booksOf l a)) (hm : 1 ≤ m) : m_gleeref2_OwingOf l m a = some (owingK a m (booksOf l a)) := by
  have hlen := st_len h
  unfold owingK m_gleeref2_OwingOf
  rw [hallAt_spec l a hl, Option.bind_some]
  simp only
  refine anyOrd_of fun L hL => ?_
  rw [keys_conv] at hL
  have hLl : L.length ≤ 3 := by rw [hL.length_eq, List.length_map]; exact hlen
  have hLn : L.Nodup := hL.nodup_iff.2 h.p.sk
  by_cases hall : ∀ k ∈ (booksOf l a).st.map Prod.fst, (balK a (booksOf l a) k).2 = 0
  · rw [if_pos hall]
    have g0 := owingR_good (m := m) hl h L 0 [] (fun k hk => hall k (hL.subset hk)) hLn (by simp) (by simp; omega)
    rw [show (([], []) : MS × List ByteArray) = mk2 [] from rfl, g0, Option.bind_some, fin_brk, List.nil_append]
    have hpf := hL.filterMap (debtOf a m (booksOf l a))
    have hfl : (L.filterMap (debtOf a m (booksOf l a))).length ≤ 3 := Nat.le_trans (List.length_filterMap_le ..) hLl
    have hdn := debts_nodup a m (booksOf l a) L hLn
    have hrg : ∀ x ∈ L.filterMap (debtOf a m (booksOf l a)), 1 ≤ x.cents ∧ x.cents ≤ 268000000000000 := debt_rng h hm
    unfold owedOf
    rw [← debts_one hpf (debts_nodup a m (booksOf l a) _ h.p.sk)]
    generalize L.filterMap (debtOf a m (booksOf l a)) = D at hfl hdn hrg ⊢
    have hM : ∀ k, 0 ≤ (lkM (mk2 D).1 k).getD 0 ∧ (lkM (mk2 D).1 k).getD 0 ≤ 268000000000000 := fun k => by
      cases hk : lkM (mk2 D).1 k with
      | none => simp
      | some v =>
        have := lkM_mem hk
        unfold mk2 at this
        obtain ⟨x, hx, e⟩ := List.mem_map.1 this
        have hr := hrg x hx
        cases e
        simp only [Option.getD_some]
        omega
    have hnames : (mk2 D).2.length = D.length := by simp [mk2]
    rw [sortN _ hM _ (by omega), Option.bind_some]
    have hmap : ((mk2 D).2.foldl (ins (ltN (mk2 D).1)) []).map (dbt (mk2 D).1) = D.foldl (ins ltS) [] := by
      rw [fold_ins_map (dbt (mk2 D).1) (ltN (mk2 D).1) ltS (fun _ _ => rfl)]
      congr 1
      show (D.map (·.who)).map (dbt (mk2 D).1) = D
      rw [List.map_map]
      exact (List.map_congr_left fun x hx => dbt_of hdn x hx).trans (List.map_id D)
    have hsl : ((mk2 D).2.foldl (ins (ltN (mk2 D).1)) []).length ≤ 3 := by
      have := fold_perm (ltN (mk2 D).1) (mk2 D).2 []
      rw [List.nil_append] at this
      rw [this.length_eq, hnames]; exact hfl
    rw [← hmap]
    generalize (mk2 D).2.foldl (ins (ltN (mk2 D).1)) [] = S at hsl ⊢
    obtain ⟨u, g1, g2⟩ := rangeM_invx (m_gleeref2_OwingOf_l2 (mk2 D)) S (fun i u => u = ((S.take i).map (dbt (mk2 D).1)).map toPr) (by
      rintro i x u hx rfl
      have hi := (List.getElem?_eq_some_iff.1 hx).1
      have := hM x
      unfold m_gleeref2_OwingOf_l2
      rw [Itoa_in (by omega), Option.bind_some, appM_of (by simp; omega) (by omega), Option.bind_some]
      exact ⟨_, rfl, by rw [List.take_add_one, hx]; simp [toPr, dbt]⟩) [] rfl
    rw [g1, Option.bind_some, fin_brk, g2, List.take_length]
  · rw [if_neg hall]
    obtain ⟨k, hk, hne⟩ := not_all hall
    rw [owingR_bad hl h L 0 ([], []) ⟨k, hL.symm.subset hk, hne⟩ (by simp; omega)]; rfl
/-! the purse -/
theorem purseR_loop : ∀ (t : List (ByteArray × Int)) (i : Nat) (n : Int), rangeM m_gleeref2_PurseOf_l1 i t (w64 n) = some (.brk (w64 (n + isum t))) := by
  intro t
  induction t with
  | nil => intro i n; simp [isum]
  | cons x t ih =>
    intro i n
    rw [rangeM_cons]
    unfold m_gleeref2_PurseOf_l1
    rw [Option.bind_some, run_nxt, w64_w64]
    have := ih (i + 1) (n + x.2)
    unfold m_gleeref2_PurseOf_l1 at this
    rw [this]
    simp only [isum]
    rw [Int.add_assoc]
theorem PurseOf_spec {l : List TAct} {a : Int} (hl : ActsOK l) : m_gleeref2_PurseOf l a = some (purseOf (booksOf l a).pd) := by
  unfold m_gleeref2_PurseOf
  rw [hallAt_spec l a hl, Option.bind_some]
  simp only
  refine anyOrd_of fun L hL => ?_
  have h := purseR_loop L 0 0
  rw [show w64 0 = 0 from rfl, Int.zero_add, isum_perm hL] at h
  rw [h, Option.bind_some, fin_brk, ifB_ite]
  unfold purseOf
  split <;> rfl
/-! the errors -/
theorem EqualP_refl (a : List TPair) : m_slices_Equal_api_Pair_api_Pair a a = some true := by
  unfold m_slices_Equal_api_Pair_api_Pair
  rw [show ((a.length : Int) != (a.length : Int)) = false by simp, ifB_false]
  obtain ⟨s, h1, -⟩ := rangeM_invx (m_slices_Equal_api_Pair_api_Pair_l1 a) a (fun _ _ => True) (by
    intro i x s hx _
    unfold m_slices_Equal_api_Pair_api_Pair_l1
    rw [getI_of rfl hx, Option.bind_some, show (!(decide (x = x))) = false by simp, ifB_false]
    exact ⟨_, rfl, trivial⟩) () trivial
  rw [h1]; rfl
theorem MomentFault_spec (n : Int) : m_gleeref2_MomentFault n = some (bif isAt n then 0 else 1) := by
  unfold m_gleeref2_MomentFault
  rw [Moment_R, Option.bind_some]
  cases isAt n <;> rfl
theorem actsFault_spec (l : List TAct) (at_ : Int) : m_gleelaw2_actsFault l at_ = some (askF l at_) := by
  unfold m_gleelaw2_actsFault askF
  rw [ActsFault_spec, Option.bind_some, MomentFault_spec, Option.bind_some, errs_spec, Option.bind_some]
  unfold fst0 fst0 fst0
  by_cases h : actsF l = 0
  · rw [h]; cases isAt at_ <;> rfl
  · rw [show (actsF l != 0) = true by simpa using h]
    simp [h]
theorem nameFault_spec (s : ByteArray) : m_gleelaw2_nameFault s = some (bif isKey s then 0 else 5) := by
  unfold m_gleelaw2_nameFault
  rw [isKey_ref, Option.bind_some, when_spec, Option.bind_some]
  cases isKey s <;> rfl
theorem errs_name (l : List TAct) (who : ByteArray) (at_ : Int) : m_gleelaw2_errs [askF l at_, bif isKey who then 0 else 5] = some (nameF l who at_) := by
  rw [errs_spec]
  unfold nameF fst0 fst0 fst0
  by_cases h : askF l at_ = 0
  · rw [h]; cases isKey who <;> rfl
  · rw [show (askF l at_ != 0) = true by simpa using h]
    simp [h]
theorem clubbed_true : m_gleelaw2_clubbed = some true := by
  unfold m_gleelaw2_clubbed
  rw [show m_club_Members [(TAct.mk (ByteArray.mk [97].toArray) 1 0 1 (ByteArray.mk [97, 110, 110].toArray) ByteArray.empty 0 false ByteArray.empty 0)] 0 = some ([annA], 0) from one_member, Option.bind_some]
  show ifB ((0 : Int) == 0) ((m_slices_Equal_string_string [annA] [annA]).bind fun y5 => some y5) (some false) = some true
  rw [EqualS_refl]; rfl
def leastF (x : List TAct) (m a : Int) : Int := bif askF x a != 0 then askF x a else bif decide (m < 1 ∨ m > 1000000000) then 1 else 0
theorem errs_least (x : List TAct) (m a : Int) (b : Bool) (hb : b = decide (m < 1 ∨ m > 1000000000)) : m_gleelaw2_errs [actsF x, bif b then 1 else 0, bif isAt a then 0 else 1] = some (leastF x m a) := by
  subst hb
  rw [errs_spec]
  unfold leastF fst0 fst0 fst0 fst0 askF
  by_cases h : actsF x = 0
  · rw [h]
    cases isAt a <;> cases decide (m < 1 ∨ m > 1000000000) <;> rfl
  · have hb : (actsF x != 0) = true := by simpa using h
    simp only [hb, cond_true, if_neg h]
theorem Owing_spec (x : List TAct) (m a : Int) (hg : askF x a = 0 → GoodB a (booksOf x a)) : m_club_Owing x m a = some (if leastF x m a = 0 then owingK a m (booksOf x a) else ([], leastF x m a)) := by
  unfold m_club_Owing leastF
  rw [checkedAt_spec, Option.bind_some]
  have hout : m_kit_Outside m 1 1000000000 = some (decide (m < 1 ∨ m > 1000000000)) := by
    unfold m_kit_Outside
    by_cases h1 : m < 1
    · rw [decide_eq_true h1, ifB_true, decide_eq_true (.inl h1)]
    · rw [decide_eq_false h1, ifB_false]; congr 1; simp [h1]
  by_cases h : askF x a = 0
  · simp only [if_pos h, optB_some, show (askF x a != 0) = false by simpa using h, cond_false]
    rw [show ((0 : Int) != 0) = false from rfl, ifB_false, hout, Option.bind_some]
    by_cases hb : m < 1 ∨ m > 1000000000
    · rw [decide_eq_true hb, ifB_true, cond_true, if_neg (by decide)]
    · rw [decide_eq_false hb, ifB_false, cond_false, if_pos rfl]
      unfold bookT
      simp only
      rw [owing_spec (hg h) (by omega)]; rfl
  · simp only [if_neg h, optB_none, show (askF x a != 0) = true by simpa using h, cond_true, ifB_true]
theorem Due_spec (x : List TAct) (who : ByteArray) (a : Int) (hg : askF x a = 0 → GoodB a (booksOf x a)) : m_club_Due x who a = some (if nameF x who a = 0 then dueK a (booksOf x a) who else (0, nameF x who a)) := by
  unfold m_club_Due
  rw [named_spec, Option.bind_some]
  by_cases h : nameF x who a = 0
  · have hk := (nameF_zero h).1
    have g := hg hk
    simp only [if_pos h, optB_some]
    rw [show ((0 : Int) != 0) = false from rfl, ifB_false]
    unfold bookT
    simp only
    rw [(due_spec g.p g.b g.a2 who).1, Option.bind_some, ifB_ite]
    unfold dueK
    split <;> rfl
  · simp only [if_neg h, optB_none]
    rw [show (nameF x who a != 0) = true by simpa using h, ifB_true]
theorem Balance_spec (x : List TAct) (who : ByteArray) (a : Int) (hg : askF x a = 0 → GoodB a (booksOf x a)) : m_club_Balance x who a = some (if nameF x who a = 0 then balK a (booksOf x a) who else (0, nameF x who a)) := by
  unfold m_club_Balance
  rw [named_spec, Option.bind_some]
  by_cases h : nameF x who a = 0
  · have hk := (nameF_zero h).1
    have g := hg hk
    simp only [if_pos h, optB_some]
    rw [show ((0 : Int) != 0) = false from rfl, ifB_false]
    unfold bookT
    simp only
    rw [bal_spec g]; rfl
  · simp only [if_neg h, optB_none]
    rw [show (nameF x who a != 0) = true by simpa using h, ifB_true]
/-! the draws -/
theorem Rich_spec (L : List Int) {p : Int} (hp : 0 ≤ p) (hp' : p ≤ 1000000) : ∃ l q, m_gleemake_Stream_RichActs L p = some (l, q) ∧ ∀ x ∈ l, x.Who ∈ whoL := by
  unfold m_gleemake_Stream_RichActs
  obtain ⟨n, h1, hn1, hn2⟩ := Range_spec L (p := p) (a := 0) (b := 2) (by omega) (by omega) (by omega) (by omega) (by omega)
  rw [h1, Option.bind_some]
  simp only
  rw [w64_id (by omega), rangeI_of (by omega), Option.bind_some]
  obtain ⟨s, g1, g2⟩ := rangeM_invx m_gleemake_Stream_RichActs_l1 (List.range (999 + n).toNat) (fun i u => u.length = i + 1 ∧ ∀ x ∈ u, x.Who ∈ whoL) (by
    intro i x u hx hI
    have hi : i < (999 + n).toNat := by simpa using (List.getElem?_eq_some_iff.1 hx).1
    unfold m_gleemake_Stream_RichActs_l1
    rw [appM_of (by simp; omega) (by omega), Option.bind_some]
    refine ⟨_, rfl, by simp; omega, fun y hy => ?_⟩
    rcases List.mem_append.1 hy with hy | hy
    · exact hI.2 y hy
    · rw [List.mem_singleton.1 hy]; exact List.mem_cons_self ..) [(TAct.mk (ByteArray.mk [115, 97].toArray) 1 0 1 (ByteArray.mk [97, 110, 110].toArray) ByteArray.empty 1 false ByteArray.empty 0)] ⟨rfl, fun y hy => by rw [List.mem_singleton.1 hy]; exact List.mem_cons_self ..⟩
  rw [g1, Option.bind_some, fin_brk]
  exact ⟨_, _, rfl, g2.2⟩
theorem good_of {x : List TAct} {a : Int} (hw : ∀ y ∈ x, y.Who ∈ whoL) (h : askF x a = 0) : GoodB a (booksOf x a) := by
  obtain ⟨hok, hat⟩ := askF_zero h
  have ha : 0 ≤ a ∧ a ≤ 345686399999 := by
    unfold isAt at hat
    have := of_decide_eq_true hat
    omega
  exact ⟨books_pinv x a hok hw ha.1, (booksAt_spec x a hok.len).2, ha.1, ha.2⟩
theorem MoneyReckoned_true (L : List Int) : m_gleelaw2_MoneyReckoned L = some true := by
  unfold m_gleelaw2_MoneyReckoned
  obtain ⟨n, h1, hn1, hn2⟩ := Range_spec L (p := 0) (a := 0) (b := 18) (by omega) (by omega) (by omega) (by omega) (by omega)
  rw [h1, Option.bind_some]
  obtain ⟨x0, q, h2, hq1, hq2, hlen, hxw⟩ := Acts_spec L (p := 0 + 1) (n := n) (by omega) (by omega) hn1 (by omega)
  simp only
  rw [h2, Option.bind_some]
  obtain ⟨who, h3, -⟩ := Some_spec L (p := q) [(ByteArray.mk [97, 110, 110].toArray), (ByteArray.mk [98, 111, 98].toArray), (ByteArray.mk [122, 101, 100].toArray), (ByteArray.mk [65].toArray)] hq1 (by omega) (by simp) (by simp)
  simp only
  rw [h3, Option.bind_some]
  obtain ⟨m, h4, -⟩ := Pick_spec L (p := q + 1) [1, 500, 600, 0, 1000000001] (by omega) (by omega) (by simp) (by simp)
  simp only
  rw [h4, Option.bind_some]
  obtain ⟨a, h5, -⟩ := Pick_spec L (p := q + 1 + 1) [0, 5, 20, 40, 2592000000, 2592000010, 7776000000, 7776000020, (-1)] (by omega) (by omega) (by simp) (by simp)
  unfold m_gleemake_Stream_ActTime
  simp only
  rw [h5, Option.bind_some, Option.bind_some]
  obtain ⟨fb, h6⟩ := Flip_spec L (p := q + 1 + 1 + 1) (n := 40) (by omega) (by omega) (by omega)
  simp only
  rw [h6, Option.bind_some]
  obtain ⟨xr, qr, h7, hrw⟩ := Rich_spec L (p := q + 1 + 1 + 1 + 1) (by omega) (by omega)
  have hx : ∃ x, (ifB fb ((m_gleemake_Stream_RichActs L (q + 1 + 1 + 1 + 1)).bind fun y15 => some (.inl y15.1)) (some (.inl x0)) : Option ((List TAct) ⊕ Bool)) = some (.inl x) ∧ ∀ y ∈ x, y.Who ∈ whoL := by
    cases fb
    · exact ⟨x0, rfl, fun y hy => (hxw y hy).2.2⟩
    · rw [ifB_true, h7]; exact ⟨xr, rfl, hrw⟩
  obtain ⟨x, hx1, hw⟩ := hx
  simp only
  rw [hx1, Option.bind_some, fin_inl]
  have hg : askF x a = 0 → GoodB a (booksOf x a) := good_of hw
  rw [Due_spec x who a hg, Balance_spec x who a hg, Owing_spec x m a hg, Purse_spec, actsFault_spec, nameFault_spec]
  simp only [Option.bind_some]
  rw [errs_name, Option.bind_some, ActsFault_spec, MomentFault_spec]
  simp only [Option.bind_some]
  have hthree : (ifB (decide (m < 1)) ((m_gleelaw2_when true 1).bind fun y30 => (m_gleelaw2_errs [actsF x, y30, bif isAt a then 0 else 1]).bind fun y33 => some (.inl (nameF x who a, y33, askF x a)))
      ((m_gleelaw2_when (decide (m > 1000000000)) 1).bind fun y35 => (m_gleelaw2_errs [actsF x, y35, bif isAt a then 0 else 1]).bind fun y38 => some (.inl (nameF x who a, y38, askF x a))) : Option ((Int × Int × Int) ⊕ Bool)) = some (.inl (nameF x who a, leastF x m a, askF x a)) := by
    by_cases hm : m < 1
    · rw [decide_eq_true hm, ifB_true, when_spec, Option.bind_some, errs_least x m a true (by simp [hm])]; rfl
    · rw [decide_eq_false hm, ifB_false, when_spec, Option.bind_some, errs_least x m a (decide (m > 1000000000)) (by simp [hm])]; rfl
  rw [hthree, Option.bind_some, fin_inl]
  simp only
  have hone : (ifB (nameF x who a == 0) ((m_gleeref2_DueOf x who a).bind fun y43 => (m_gleeref2_BalanceOf x who a).bind fun y44 => some (.inl (y43.2, y44.2, y43.1, y44.1))) (some (.inl (nameF x who a, nameF x who a, 0, 0))) : Option ((Int × Int × Int × Int) ⊕ Bool)) =
      some (.inl ((if nameF x who a = 0 then dueK a (booksOf x a) who else (0, nameF x who a)).2, (if nameF x who a = 0 then balK a (booksOf x a) who else (0, nameF x who a)).2, (if nameF x who a = 0 then dueK a (booksOf x a) who else (0, nameF x who a)).1, (if nameF x who a = 0 then balK a (booksOf x a) who else (0, nameF x who a)).1)) := by
    by_cases h : nameF x who a = 0
    · have hk := (nameF_zero h).1
      have hok := (askF_zero hk).1
      rw [show (nameF x who a == 0) = true by simpa using h, ifB_true, DueOf_spec hok (hg hk), Option.bind_some, BalanceOf_spec hok (hg hk), Option.bind_some]
      simp only [if_pos h]
    · rw [show (nameF x who a == 0) = false by simpa using h, ifB_false]
      simp only [if_neg h]
  rw [hone, Option.bind_some, fin_inl]
  simp only
  have htwo : (ifB (leastF x m a == 0) ((m_gleeref2_OwingOf x m a).bind fun y49 => some (.inl (y49.2, y49.1))) (some (.inl (leastF x m a, []))) : Option ((Int × (List TPair)) ⊕ Bool)) =
      some (.inl ((if leastF x m a = 0 then owingK a m (booksOf x a) else ([], leastF x m a)).2, (if leastF x m a = 0 then owingK a m (booksOf x a) else ([], leastF x m a)).1)) := by
    by_cases h : leastF x m a = 0
    · have hk : askF x a = 0 ∧ 1 ≤ m := by
        unfold leastF at h
        by_cases hk : askF x a = 0
        · refine ⟨hk, ?_⟩
          rw [show (askF x a != 0) = false by simpa using hk, cond_false] at h
          by_cases hb : m < 1 ∨ m > 1000000000
          · rw [decide_eq_true hb] at h; cases h
          · omega
        · rw [show (askF x a != 0) = true by simpa using hk, cond_true] at h
          exact (hk h).elim
      rw [show (leastF x m a == 0) = true by simpa using h, ifB_true, OwingOf_spec (askF_zero hk.1).1 (hg hk.1) hk.2, Option.bind_some]
      simp only [if_pos h]
    · rw [show (leastF x m a == 0) = false by simpa using h, ifB_false]
      simp only [if_neg h]
  rw [htwo, Option.bind_some, fin_inl]
  simp only
  have hfour : (ifB (askF x a == 0) ((m_gleeref2_PurseOf x a).bind fun y55 => some (.inl (y55.2, y55.1))) (some (.inl (askF x a, 0))) : Option ((Int × Int) ⊕ Bool)) =
      some (.inl ((if askF x a = 0 then purseOf (booksOf x a).pd else (0, askF x a)).2, (if askF x a = 0 then purseOf (booksOf x a).pd else (0, askF x a)).1)) := by
    by_cases h : askF x a = 0
    · rw [show (askF x a == 0) = true by simpa using h, ifB_true, PurseOf_spec (askF_zero h).1, Option.bind_some]
      simp only [if_pos h]
    · rw [show (askF x a == 0) = false by simpa using h, ifB_false]
      simp only [if_neg h]
  rw [hfour, Option.bind_some, fin_inl]
  simp only
  rw [EqualP_refl, Option.bind_some, clubbed_true]
  simp
end Go.G
