/- LMo: MoneyAddsUp's law. In plain Lean, no program in sight. -/
import Derived.Test.YtdampgmepdccdaaGreatDoorLMd
import Derived.Test.YtdampgmepdccdaaGreatDoorLY6n
import Derived.Test.YtdampgmepdccdaaGreatDoorLYp
import Derived.Test.YtdampgmepdccdaaGreatDoorLAr
import Derived.Test.YtdampgmepdccdaaGreatDoorLR1f
namespace Go.G
open Go Go.J
set_option linter.unusedSimpArgs false
set_option linter.unusedVariables false
def balK (a : Int) (s : Bk) (k : ByteArray) : Int × Int := balOf (dueL a (rowOf s.st k)) (paidOf s.pd k)
theorem bal_e (a : Int) (s : Bk) (k : ByteArray) : (balK a s k).2 = 0 ∨ (balK a s k).2 = 12 := by unfold balK balOf; split <;> simp
def debtOf (a : Int) (s : Bk) (k : ByteArray) : Option Tclub_debt := if -(balK a s k).1 ≥ 1 then some ⟨k, -(balK a s k).1⟩ else none
structure GoodB (a : Int) (s : Bk) : Prop where
  p : PInv a 2000 s
  b : BOK 2000 s
  a1 : 0 ≤ a
  a2 : a ≤ 345686399999
theorem bal_rng {a : Int} {s : Bk} (h : GoodB a s) (k : ByteArray) : -268000000000000 ≤ (balK a s k).1 ∧ (balK a s k).1 ≤ 2000000000000 := by
  obtain ⟨-, g2, g3⟩ := due_spec h.p h.b h.a2 k
  obtain ⟨p1, p2⟩ := paid_rng h.p k
  unfold balK balOf
  split <;> simp only <;> omega
theorem bal_spec {a : Int} {s : Bk} (h : GoodB a s) (k : ByteArray) : m_club_books_balance a s.st s.pd s.mo s.rf k = some (balK a s k) := balance_spec h.p h.b h.a2 k
theorem owing_good {a : Int} {s : Bk} (h : GoodB a s) : ∀ (L : List ByteArray) (i : Nat) (u : List Tclub_debt), (∀ k ∈ L, (balK a s k).2 = 0) → u.length + L.length ≤ 1000 → rangeM (m_club_books_owing_l1 a s.st s.pd s.mo s.rf 1) i L u = some (.brk (u ++ L.filterMap (debtOf a s))) := by
  intro L
  induction L with
  | nil => intro i u _ _; simp
  | cons k L ih =>
    intro i u hk hu
    simp only [List.length_cons] at hu
    have h0 := hk k (List.mem_cons_self ..)
    obtain ⟨r1, r2⟩ := bal_rng h k
    have hs : m_club_books_owing_l1 a s.st s.pd s.mo s.rf 1 i k u = some (.nxt (u ++ (debtOf a s k).toList)) := by
      unfold m_club_books_owing_l1 debtOf
      rw [bal_spec h, Option.bind_some, h0, show ((0 : Int) != 0) = false from rfl, ifB_false, w64_id (by omega)]
      by_cases hd : 0 - (balK a s k).1 ≥ 1
      · rw [decide_eq_true hd, ifB_true, appM_of (by simp; omega) (by omega), if_pos (by omega)]
        simp only [Option.bind_some, Option.toList_some, Int.zero_sub]
      · rw [decide_eq_false hd, ifB_false, if_neg (by omega)]; simp
    rw [rangeM_cons, hs, Option.bind_some, run_nxt, ih (i + 1) _ (fun z hz => hk z (List.mem_cons_of_mem _ hz)) (by cases hdo : debtOf a s k <;> simp <;> omega)]
    cases hdo : debtOf a s k <;> simp [List.filterMap_cons, hdo]
theorem owing_bad {a : Int} {s : Bk} (h : GoodB a s) : ∀ (L : List ByteArray) (i : Nat) (u : List Tclub_debt), (∃ k ∈ L, (balK a s k).2 ≠ 0) → u.length + L.length ≤ 1000 → rangeM (m_club_books_owing_l1 a s.st s.pd s.mo s.rf 1) i L u = some (.ret ([], 12)) := by
  intro L
  induction L with
  | nil => intro i u ⟨k, hk, _⟩ _; cases hk
  | cons k L ih =>
    intro i u hk hu
    simp only [List.length_cons] at hu
    obtain ⟨r1, r2⟩ := bal_rng h k
    rcases bal_e a s k with h0 | h0
    · have hk' : ∃ z ∈ L, (balK a s z).2 ≠ 0 := by
        obtain ⟨z, hz, hne⟩ := hk
        rcases List.mem_cons.1 hz with rfl | hz
        · exact (hne h0).elim
        · exact ⟨z, hz, hne⟩
      have hs : ∃ v : List Tclub_debt, m_club_books_owing_l1 a s.st s.pd s.mo s.rf 1 i k u = some (.nxt v) ∧ v.length ≤ u.length + 1 := by
        unfold m_club_books_owing_l1
        rw [bal_spec h, Option.bind_some, h0, show ((0 : Int) != 0) = false from rfl, ifB_false]
        cases decide (w64 (0 - (balK a s k).1) ≥ 1)
        · exact ⟨u, rfl, by omega⟩
        · rw [ifB_true, appM_of (by simp; omega) (by omega)]; exact ⟨_, rfl, by simp⟩
      obtain ⟨v, hs, hv⟩ := hs
      rw [rangeM_cons, hs, Option.bind_some, run_nxt, ih (i + 1) v hk' (by omega)]
    · have hs : m_club_books_owing_l1 a s.st s.pd s.mo s.rf 1 i k u = some (.ret ([], 12)) := by
        unfold m_club_books_owing_l1
        rw [bal_spec h, Option.bind_some, h0]; rfl
      rw [rangeM_cons, hs]; rfl
def toPr (x : Tclub_debt) : TPair := ⟨x.who, ⟨(Lib.itoa x.cents).toArray⟩⟩
theorem Itoa_in {n : Int} (h : -9223372036854775808 ≤ n ∧ n ≤ 9223372036854775807) : m_strconv_Itoa n = some ⟨(Lib.itoa n).toArray⟩ := by unfold m_strconv_Itoa; rw [if_pos h]
noncomputable def owedOf (a : Int) (s : Bk) : List TPair := (((s.st.map Prod.fst).filterMap (debtOf a s)).foldl (ins ltS) []).map toPr
theorem debt_who {a : Int} {s : Bk} {k : ByteArray} {x : Tclub_debt} (h : debtOf a s k = some x) : x = ⟨k, -(balK a s k).1⟩ ∧ -(balK a s k).1 ≥ 1 := by
  unfold debtOf at h
  split at h
  · rename_i g; cases h; exact ⟨rfl, g⟩
  · cases h
theorem debts_nodup (a : Int) (s : Bk) : ∀ (L : List ByteArray), L.Nodup → ((L.filterMap (debtOf a s)).map (·.who)).Nodup := by
  intro L
  induction L with
  | nil => intro _; simp
  | cons k L ih =>
    intro hn
    rw [List.nodup_cons] at hn
    rw [List.filterMap_cons]
    cases hd : debtOf a s k with
    | none => exact ih hn.2
    | some x =>
      simp only [List.map_cons, List.nodup_cons]
      refine ⟨fun hm => ?_, ih hn.2⟩
      obtain ⟨y, hy, e⟩ := List.mem_map.1 hm
      obtain ⟨j, hj, hd'⟩ := List.mem_filterMap.1 hy
      have e1 := (debt_who hd).1
      have e2 := (debt_who hd').1
      rw [e1, e2] at e
      simp only at e
      exact hn.1 (e ▸ hj)
theorem st_len {a : Int} {s : Bk} (h : GoodB a s) : s.st.length ≤ 3 := by
  have := List.Nodup.length_le_of_subset h.p.sk (l₂ := who3) fun k hk => by
    obtain ⟨p, hp, rfl⟩ := List.mem_map.1 hk
    exact h.p.sm p hp
  simpa [who3] using this
theorem owing_spec {a : Int} {s : Bk} (h : GoodB a s) : m_club_books_owing a s.st s.pd s.mo s.rf 1 = some (owedOf a s, 0) ∧ (∀ k ∈ s.st.map Prod.fst, (balK a s k).2 = 0) ∨ m_club_books_owing a s.st s.pd s.mo s.rf 1 = some ([], 12) := by
  have hlen := st_len h
  by_cases hall : ∀ k ∈ s.st.map Prod.fst, (balK a s k).2 = 0
  · left
    refine ⟨?_, hall⟩
    unfold m_club_books_owing
    refine anyOrd_of fun L hL => ?_
    have hLl : L.length ≤ 3 := by rw [hL.length_eq, List.length_map]; exact hlen
    rw [owing_good h L 0 [] (fun k hk => hall k (hL.subset hk)) (by simp; omega), Option.bind_some, fin_brk, List.nil_append]
    have hpf := hL.filterMap (debtOf a s)
    have hfl : (L.filterMap (debtOf a s)).length ≤ 3 := Nat.le_trans (List.length_filterMap_le ..) hLl
    rw [sortD _ (by omega), Option.bind_some, debts_one hpf (debts_nodup a s _ h.p.sk)]
    have hdl : (((s.st.map Prod.fst).filterMap (debtOf a s)).foldl (ins ltS) []).length ≤ 3 := by
      rw [(debts_perm _).length_eq, ← hpf.length_eq]; exact hfl
    have hc : ∀ x ∈ ((s.st.map Prod.fst).filterMap (debtOf a s)).foldl (ins ltS) [], 1 ≤ x.cents ∧ x.cents ≤ 268000000000000 := fun x hx => by
      have := (debts_perm _).subset hx
      obtain ⟨k, -, hd⟩ := List.mem_filterMap.1 this
      obtain ⟨rfl, g⟩ := debt_who hd
      have := bal_rng h k
      exact ⟨g, by simp only; omega⟩
    unfold owedOf
    generalize ((s.st.map Prod.fst).filterMap (debtOf a s)).foldl (ins ltS) [] = D at hdl hc ⊢
    obtain ⟨u, g1, g2⟩ := rangeM_invx m_club_books_owing_l2 D (fun i u => u = (D.take i).map toPr) (by
      rintro i x u hx rfl
      have hi := (List.getElem?_eq_some_iff.1 hx).1
      have := hc x (List.mem_of_getElem? hx)
      unfold m_club_books_owing_l2
      rw [Itoa_in (by omega), Option.bind_some, appM_of (by simp; omega) (by omega), Option.bind_some]
      exact ⟨_, rfl, by rw [List.take_add_one, hx]; simp [toPr]⟩) [] rfl
    rw [g1, Option.bind_some, fin_brk, g2, List.take_length]
  · right
    have hex : ∃ k ∈ s.st.map Prod.fst, (balK a s k).2 ≠ 0 := by
      refine Classical.byContradiction fun hno => hall fun k hk => ?_
      exact Classical.byContradiction fun hne => hno ⟨k, hk, hne⟩
    unfold m_club_books_owing
    refine anyOrd_of fun L hL => ?_
    have hLl : L.length ≤ 3 := by rw [hL.length_eq, List.length_map]; exact hlen
    obtain ⟨k, hk, hne⟩ := hex
    rw [owing_bad h L 0 [] ⟨k, hL.symm.subset hk, hne⟩ (by simp; omega)]; rfl
theorem Numbers_one {n : Int} (h : -9223372036854775808 ≤ n ∧ n ≤ 9223372036854775807) : m_gleeref2_Numbers [n] = some ⟨(Lib.itoa n).toArray⟩ := by
  unfold m_gleeref2_Numbers
  have hs : m_gleeref2_Numbers_l1 0 n [] = some (.nxt [⟨(Lib.itoa n).toArray⟩]) := by
    unfold m_gleeref2_Numbers_l1
    rw [Itoa_in h, Option.bind_some, appM_of (by simp) (by omega)]; rfl
  rw [rangeM_cons, hs, Option.bind_some, run_nxt, rangeM_nil, Option.bind_some, fin_brk]
  rfl
theorem Named_b {x : List TAct} {k : ByteArray} {a : Int} (h : askF x a = 0) (hk : isKey k = true) : m_club_named x k a = some (some (bookT x a), 0) := by
  rw [named_spec, if_pos (by unfold nameF; rw [h, hk]; rfl)]
theorem money_l1 {x : List TAct} {a : Int} (q q1 : Int) (hs : GoodB a (booksOf x a)) (h : askF x a = 0) (hall : ∀ k ∈ (booksOf x a).st.map Prod.fst, (balK a (booksOf x a) k).2 = 0) (hp : ∀ k, paidOf (booksOf x a).pd k ≤ 1000000000000) (i : Nat) (k : ByteArray) (hk : isKey k = true) (u : Int) :
    m_gleekeep2_MoneyAddsUp_l1 (x, q1) (a, q) (owedOf a (booksOf x a), 0) i k u = some (.nxt (w64 (u + paidOf (booksOf x a).pd k))) := by
  obtain ⟨d0, d1, d2⟩ := due_spec hs.p hs.b hs.a2 k
  obtain ⟨p1, p2⟩ := paid_rng hs.p k
  have hp := hp k
  -- the due is no more than can be told
  have hd : dueL a (rowOf (booksOf x a).st k) ≤ 1000000000000 := by
    by_cases hm : k ∈ (booksOf x a).st.map Prod.fst
    · have := hall k hm
      unfold balK balOf at this
      split at this
      · simp at this
      · omega
    · have : rowOf (booksOf x a).st k = [] := by unfold rowOf; rw [lkM_out hm]; rfl
      rw [this]; simp [dueL]
  have hb : balK a (booksOf x a) k = (paidOf (booksOf x a).pd k - dueL a (rowOf (booksOf x a).st k), 0) := by unfold balK balOf; rw [if_neg (by omega)]
  have e1 : m_club_Due x k a = some (dueL a (rowOf (booksOf x a).st k), 0) := by
    unfold m_club_Due
    rw [Named_b h hk, Option.bind_some]
    simp only [optB_some]
    rw [show ((0 : Int) != 0) = false from rfl, ifB_false]
    unfold bookT
    simp only
    rw [d0, Option.bind_some, decide_eq_false (by omega), ifB_false]
  have e2 : m_club_Balance x k a = some (paidOf (booksOf x a).pd k - dueL a (rowOf (booksOf x a).st k), 0) := by
    unfold m_club_Balance
    rw [Named_b h hk, Option.bind_some]
    simp only [optB_some]
    rw [show ((0 : Int) != 0) = false from rfl, ifB_false]
    unfold bookT
    simp only
    rw [bal_spec hs, hb]; rfl
  unfold m_gleekeep2_MoneyAddsUp_l1
  simp only
  rw [e1, Option.bind_some, e2, Option.bind_some]
  simp only
  rw [show m_gleekeep2_errs [0, 0] = some 0 by kernel_rfl, Option.bind_some, show ((0 : Int) != 0) = false from rfl, ifB_false, Option.bind_some, fin_inl, decide_eq_false (show ¬ dueL a (rowOf (booksOf x a).st k) < 0 by omega), ifB_false]
  have hix : m_slices_IndexFunc_api_Pair_api_Pair__gleekeep2_MoneyAddsUp_1 (owedOf a (booksOf x a)) k = ixM (fun y => some (y.Name.toList == k.toList)) (owedOf a (booksOf x a)) := rfl
  obtain ⟨n, n1, n2⟩ := ixM_spec (fun y : TPair => some (y.Name.toList == k.toList)) (fun y => y.Name.toList == k.toList) (owedOf a (booksOf x a)) (fun _ _ => rfl)
  rw [hix, n1, Option.bind_some]
  have hname : ∀ y : TPair, (y.Name.toList == k.toList) = true ↔ y.Name = k := fun y => by rw [beq_iff_eq]; exact ba_toList_inj
  have hmem : ∀ y ∈ owedOf a (booksOf x a), y.Name = k → (balK a (booksOf x a) k).1 < 0 ∧ y.Value = ⟨(Lib.itoa (-(balK a (booksOf x a) k).1)).toArray⟩ := fun y hy e => by
    unfold owedOf at hy
    obtain ⟨z, hz, rfl⟩ := List.mem_map.1 hy
    obtain ⟨j, -, hdj⟩ := List.mem_filterMap.1 ((debts_perm _).subset hz)
    obtain ⟨rfl, g⟩ := debt_who hdj
    have : j = k := e
    subst this
    exact ⟨by omega, rfl⟩
  have hin : (balK a (booksOf x a) k).1 < 0 → ∃ y ∈ owedOf a (booksOf x a), y.Name = k := fun hlt => by
    have hm : k ∈ (booksOf x a).st.map Prod.fst := by
      refine Classical.byContradiction fun hno => ?_
      have : rowOf (booksOf x a).st k = [] := by unfold rowOf; rw [lkM_out hno]; rfl
      rw [hb, this] at hlt
      simp only [dueL] at hlt
      omega
    refine ⟨toPr ⟨k, -(balK a (booksOf x a) k).1⟩, ?_, rfl⟩
    unfold owedOf
    refine List.mem_map_of_mem ((debts_perm _).symm.subset (List.mem_filterMap.2 ⟨k, hm, ?_⟩))
    unfold debtOf
    rw [if_pos (by omega)]
  rw [hb] at hmem hin
  simp only at hmem hin
  have wb : w64 (paidOf (booksOf x a).pd k - dueL a (rowOf (booksOf x a).st k) + dueL a (rowOf (booksOf x a).st k)) = paidOf (booksOf x a).pd k := by rw [w64_id (by omega)]; omega
  rw [wb]
  rcases n2 with ⟨rfl, g⟩ | ⟨j, rfl, hj, -, y, hy, hyd⟩
  · have hno : ¬ paidOf (booksOf x a).pd k - dueL a (rowOf (booksOf x a).st k) < 0 := fun hlt => by
      obtain ⟨y, hy, e⟩ := hin hlt
      have := g y hy
      rw [(hname y).2 e] at this; cases this
    rw [decide_eq_false hno]
    simp
  · have hyk := (hname y).1 hyd
    obtain ⟨g1, g2⟩ := hmem y (List.mem_of_getElem? hy) hyk
    rw [decide_eq_true g1, decide_eq_true (show (j : Int) ≥ 0 by omega)]
    rw [show (!((true : Bool) == true)) = false from rfl, ifB_false, ifB_true, getI_of rfl hy, Option.bind_some, w64_id (by omega), Numbers_one (by omega), Option.bind_some, g2]
    rw [show (0 : Int) - (paidOf (booksOf x a).pd k - dueL a (rowOf (booksOf x a).st k)) = -(paidOf (booksOf x a).pd k - dueL a (rowOf (booksOf x a).st k)) by omega]
    simp
theorem isum_lsum : ∀ l : List (ByteArray × Int), isum l = lsum l := by
  intro l
  induction l with
  | nil => rfl
  | cons x t ih => simp only [isum, lsum, ih]
theorem MoneyAddsUp_true (L : List Int) : m_gleekeep2_MoneyAddsUp L = some true := by
  unfold m_gleekeep2_MoneyAddsUp
  obtain ⟨n, h1, hn1, hn2⟩ := Range_spec L (p := 0) (a := 0) (b := 18) (by omega) (by omega) (by omega) (by omega) (by omega)
  rw [h1, Option.bind_some]
  obtain ⟨x, q, h2, hq1, hq2, hok, -, hx⟩ := RightActs_spec L (p := 0 + 1) (n := n) (by omega) (by omega) hn1 (by omega)
  simp only
  rw [h2, Option.bind_some]
  obtain ⟨a, h3, ha1, ha2⟩ := Range_spec L (p := q) (a := 0) (b := 7776000000) hq1 (by omega) (by omega) (by omega) (by omega)
  simp only
  rw [h3, Option.bind_some]
  have ax := askF_of hok (show isAt a = true by unfold isAt inR; rw [decide_eq_true_eq]; omega)
  obtain ⟨-, hb⟩ := booksAt_spec x a hok.len
  have hs : GoodB a (booksOf x a) := ⟨books_pinv x a hok (fun y hy => (hx y hy).2.2) ha1, hb, ha1, by omega⟩
  have hpurse : m_club_Purse x a = some (purseOf (booksOf x a).pd) := by rw [Purse_spec, if_pos ax]
  have hsum := sum3 (booksOf x a).pd hs.p.pk fun p hp => (hs.p.pv p hp).1
  have pa := paid_rng hs.p annA
  have pb := paid_rng hs.p bobA
  have pc := paid_rng hs.p cidA
  have how : m_club_Owing x 1 a = some (match m_club_books_owing a (booksOf x a).st (booksOf x a).pd (booksOf x a).mo (booksOf x a).rf 1 with | some r => r | none => ([], 0)) := by
    unfold m_club_Owing
    rw [checkedAt_spec, if_pos ax, Option.bind_some]
    simp only [optB_some]
    rw [show ((0 : Int) != 0) = false from rfl, ifB_false, show m_kit_Outside 1 1 1000000000 = some false by kernel_rfl, Option.bind_some, ifB_false]
    unfold bookT
    simp only
    rcases owing_spec hs with ⟨e, -⟩ | e <;> rw [e] <;> rfl
  rw [how, hpurse]
  simp only [Option.bind_some]
  have e12 : m_gleekeep2_errs [12, (purseOf (booksOf x a).pd).2] = some 12 := by
    unfold purseOf; split <;> kernel_rfl
  rcases owing_spec hs with ⟨e, hall⟩ | e
  · rw [e]
    simp only
    by_cases hpl : w64 (isum (booksOf x a).pd) > 1000000000000
    · have : purseOf (booksOf x a).pd = (0, 12) := by unfold purseOf; rw [if_pos hpl]
      rw [this]
      simp only
      rw [show m_gleekeep2_errs [0, 12] = some 12 by kernel_rfl, Option.bind_some, show ((12 : Int) != 0) = true from rfl, ifB_true, Option.bind_some, show ((12 : Int) == 12) = true from rfl, ifB_true, ready_true]
      rfl
    · have hpu : purseOf (booksOf x a).pd = (w64 (isum (booksOf x a).pd), 0) := by unfold purseOf; rw [if_neg hpl]
      rw [hpu]
      simp only
      rw [show m_gleekeep2_errs [0, 0] = some 0 by kernel_rfl, Option.bind_some, show ((0 : Int) != 0) = false from rfl, ifB_false]
      rw [isum_lsum, hsum, w64_id (by omega)] at hpl ⊢
      have h3 : ∀ k, paidOf (booksOf x a).pd k ≤ 1000000000000 := fun k => by
        unfold paidOf
        cases hl : lkM (booksOf x a).pd k with
        | none => simp
        | some v =>
          have hk := (hs.p.pv _ (lkM_mem hl)).1
          have hv : paidOf (booksOf x a).pd k = v := by unfold paidOf; rw [hl]; rfl
          simp only [who3, List.mem_cons, List.not_mem_nil, or_false] at hk
          simp only [Option.getD_some]
          rcases hk with rfl | rfl | rfl <;> omega
      rw [rangeM_cons, show (ByteArray.mk [97, 110, 110].toArray) = annA from rfl, show (ByteArray.mk [98, 111, 98].toArray) = bobA from rfl, show (ByteArray.mk [99, 105, 100].toArray) = cidA from rfl]
      rw [money_l1 _ _ hs ax hall h3 0 annA (by kernel_rfl), Option.bind_some, run_nxt, rangeM_cons, money_l1 _ _ hs ax hall h3 _ bobA (by kernel_rfl), Option.bind_some, run_nxt, rangeM_cons, money_l1 _ _ hs ax hall h3 _ cidA (by kernel_rfl), Option.bind_some, run_nxt, rangeM_nil, Option.bind_some, fin_brk]
      rw [w64_id (n := 0 + paidOf (booksOf x a).pd annA) (by omega), w64_id (n := 0 + paidOf (booksOf x a).pd annA + paidOf (booksOf x a).pd bobA) (by omega), w64_id (by omega), Int.zero_add, show (paidOf (booksOf x a).pd annA + paidOf (booksOf x a).pd bobA + paidOf (booksOf x a).pd cidA == paidOf (booksOf x a).pd annA + paidOf (booksOf x a).pd bobA + paidOf (booksOf x a).pd cidA) = true by simp, ifB_true, ready_true]
      rfl
  · rw [e]
    simp only
    rw [e12, Option.bind_some, show ((12 : Int) != 0) = true from rfl, ifB_true, Option.bind_some, show ((12 : Int) == 12) = true from rfl, ifB_true, ready_true]
    rfl
end Go.G
