/- LB0: bars: what is wrong with them; repeats. In plain Lean, no program in sight. -/
import Derived.Test.YtdeoejkgmeemaagGreatDoorLG1
namespace Go.G
open Go Go.J
theorem Index_spec (xs : List Int) (a : Int) : ∃ r, m_slices_Index_int_int xs a = some r ∧ (r ≥ 0 ↔ a ∈ xs) := by
  have key : ∀ (t : List Int) (i : Nat), (∃ n : Nat, rangeM (m_slices_Index_int_int_l1 a) i t () = some (.ret (n : Int)) ∧ a ∈ t) ∨ (rangeM (m_slices_Index_int_int_l1 a) i t () = some (.brk ()) ∧ a ∉ t) := by
    intro t
    induction t with
    | nil => intro i; exact .inr ⟨rfl, by simp⟩
    | cons x t ih =>
      intro i
      by_cases h : a = x
      · exact .inl ⟨i, by rw [rangeM_cons]; simp [m_slices_Index_int_int_l1, h], by simp [h]⟩
      · have hb : (a == x) = false := by simpa using h
        have e : m_slices_Index_int_int_l1 a i x () = some (.nxt ()) := by simp [m_slices_Index_int_int_l1, hb]
        rcases ih (i + 1) with ⟨n, h1, h2⟩ | ⟨h1, h2⟩
        · exact .inl ⟨n, by rw [rangeM_cons, e]; simpa using h1, by simp [h2]⟩
        · exact .inr ⟨by rw [rangeM_cons, e]; simpa using h1, by simp [h, h2]⟩
  unfold m_slices_Index_int_int
  rcases key xs 0 with ⟨n, h1, h2⟩ | ⟨h1, h2⟩
  · exact ⟨n, by rw [h1]; rfl, by simp [h2]⟩
  · exact ⟨-1, by rw [h1]; rfl, by simp [h2]⟩
theorem Contains_spec (xs : List Int) (a : Int) : m_slices_Contains_int_int xs a = some (decide (a ∈ xs)) := by
  obtain ⟨r, h, h'⟩ := Index_spec xs a
  unfold m_slices_Contains_int_int
  rw [h, Option.bind_some]
  exact congrArg some (decide_eq_decide.2 h')
def outB (a b c : Int) : Bool := decide (a < b) || decide (a > c)
theorem OutsideB_spec (a b c : Int) : m_kit_Outside a b c = some (outB a b c) := by
  unfold m_kit_Outside outB
  cases decide (a < b) <;> rfl
def unitB (a : Int) : Bool := decide (a ∈ [(1 : Int), 2, 4, 8, 16])
def bad (x : TBar) : Bool := outB x.Beats 1 16 || !unitB x.Unit || (x.Close != 0 && outB x.Close 2 9) || outB x.Ending 0 9
theorem bad_mk (beats unit cl en : Int) (op : Bool) : bad ⟨beats, unit, cl, en, op⟩ = (outB beats 1 16 || !decide (unit ∈ [(1 : Int), 2, 4, 8, 16]) || (cl != 0 && outB cl 2 9) || outB en 0 9) := rfl
theorem barFault_spec (x : TBar) : m_piece_barFault x = some (bif bad x then 1 else 0) := by
  unfold m_piece_barFault m_piece_isUnit bad
  simp only [OutsideB_spec, Contains_spec, Option.bind_some]
  show _ = some (bif outB x.Beats 1 16 || !decide (x.Unit ∈ [(1 : Int), 2, 4, 8, 16]) || (x.Close != 0 && outB x.Close 2 9) || outB x.Ending 0 9 then 1 else 0)
  generalize outB x.Beats 1 16 = b1
  generalize decide (x.Unit ∈ [(1 : Int), 2, 4, 8, 16]) = b2
  generalize (x.Close != 0) = b3
  generalize outB x.Close 2 9 = b4
  generalize outB x.Ending 0 9 = b5
  cases b1 <;> cases b2 <;> cases b3 <;> cases b4 <;> cases b5 <;> rfl
abbrev SB := Bool × Int × Int × Bool
def stB (x : TBar) (s : SB) : Int ⊕ SB :=
  ifB (bad x) (.inl 1) (ifB (x.Open && s.1) (.inl 16)
    (ifB (x.Open || s.1) (ifB (decide (x.Ending < bif x.Open then 0 else s.2.1)) (.inl 16)
        (ifB (x.Close != 0) (.inr (false, x.Ending, max (bif x.Open then 0 else s.2.2.1) x.Ending, s.2.2.2 || decide (max (bif x.Open then 0 else s.2.2.1) x.Ending > x.Close)))
          (.inr (true, x.Ending, max (bif x.Open then 0 else s.2.2.1) x.Ending, s.2.2.2))))
      (ifB (x.Close != 0 || x.Ending != 0) (.inl 16) (.inr s))))
def goB : SB → List TBar → Int ⊕ SB
  | s, [] => .inr s
  | s, x :: t => match stB x s with | .inl k => .inl k | .inr s' => goB s' t
theorem notbad (x : TBar) (h : bad x = false) : 1 ≤ x.Beats ∧ x.Beats ≤ 16 ∧ (x.Unit = 1 ∨ x.Unit = 2 ∨ x.Unit = 4 ∨ x.Unit = 8 ∨ x.Unit = 16) ∧ (x.Close ≠ 0 → 2 ≤ x.Close ∧ x.Close ≤ 9) ∧ 0 ≤ x.Ending ∧ x.Ending ≤ 9 := by
  unfold bad outB unitB at h
  simp only [Bool.or_eq_false_iff, decide_eq_false_iff_not, Bool.not_eq_false', decide_eq_true_eq, Bool.and_eq_false_iff] at h
  obtain ⟨⟨⟨⟨h1, h2⟩, h3⟩, h4⟩, h5, h6⟩ := h
  simp only [List.mem_cons, List.not_mem_nil, or_false] at h3
  refine ⟨by omega, by omega, h3, fun hc => ?_, by omega, by omega⟩
  rcases h4 with h4 | ⟨h4, h4'⟩
  · simp at h4; exact (hc h4).elim
  · omega
theorem progStep (bs : List TBar) (i : Nat) (x : TBar) (s : SB) (h : s.1 = true → ∃ p, getI bs (w64 ((i : Int) - 1)) = some p ∧ p.Ending = s.2.1) :
    m_piece_rulesFault_l1 bs i x s.1 = some (match stB x s with | .inl k => .ret k | .inr s' => .nxt s'.1) := by
  obtain ⟨o, e, m, w⟩ := s
  unfold m_piece_rulesFault_l1 stB
  rw [barFault_spec, Option.bind_some]
  cases hb : bad x with
  | true => rfl
  | false =>
    have hE : ¬ x.Ending < 0 := by have := notbad x hb; omega
    obtain ⟨beats, unit, cl, en, op⟩ := x
    simp only at hE h
    have hc : (cl != 0) = !(cl == 0) := rfl
    cases o with
    | true =>
      obtain ⟨p, hp, rfl⟩ := h rfl
      cases op <;> cases hcl : (cl == 0) <;> by_cases hlt : en < p.Ending <;> simp [hp, hc, hcl, hlt, hE]
    | false =>
      cases op <;> cases hcl : (cl == 0) <;> cases hen : (en != 0) <;> simp [hc, hcl, hE]
theorem stB_inr {x : TBar} {s s' : SB} (h : stB x s = .inr s') : bad x = false ∧ (x.Open = true → s.1 = false) ∧
    ((x.Open = false ∧ s.1 = false ∧ x.Close = 0 ∧ x.Ending = 0 ∧ s' = s) ∨
     ((x.Open = true ∨ s.1 = true) ∧ x.Close = 0 ∧ s' = (true, x.Ending, max (bif x.Open then 0 else s.2.2.1) x.Ending, s.2.2.2)) ∨
     ((x.Open = true ∨ s.1 = true) ∧ x.Close ≠ 0 ∧ s' = (false, x.Ending, max (bif x.Open then 0 else s.2.2.1) x.Ending, s.2.2.2 || decide (max (bif x.Open then 0 else s.2.2.1) x.Ending > x.Close)))) := by
  unfold stB at h
  cases hb : bad x with
  | true => rw [hb] at h; cases h
  | false =>
    rw [hb, ifB_false] at h
    cases ho : x.Open <;> cases hs : s.1 <;> cases hc : (x.Close != 0) <;> cases he : (x.Ending != 0) <;> simp only [ho, hs, hc, he, ifB_true, ifB_false, Bool.and_true, Bool.and_false, Bool.or_true, Bool.or_false, cond_true, cond_false, reduceCtorEq] at h
    all_goals simp at hc he
    all_goals first
      | (refine ⟨rfl, by simp, ?_⟩
         cases h
         exact .inl ⟨rfl, rfl, hc, he, rfl⟩)
      | (refine ⟨rfl, by simp, ?_⟩
         split at h
         · cases h
         · cases h
           first | exact .inr (.inl ⟨by simp, hc, rfl⟩) | exact .inr (.inr ⟨by simp, hc, rfl⟩))
      | (refine ⟨rfl, by simp, ?_⟩
         rw [ifB_ite] at h
         split at h
         · cases h
         · cases h
           first | exact .inr (.inl ⟨by simp, hc, rfl⟩) | exact .inr (.inr ⟨by simp, hc, rfl⟩))
theorem goB_cons {s r : SB} {x : TBar} {t : List TBar} (h : goB s (x :: t) = .inr r) : ∃ s', stB x s = .inr s' ∧ goB s' t = .inr r := by
  unfold goB at h
  cases hs : stB x s with
  | inl k => rw [hs] at h; cases h
  | inr s' => rw [hs] at h; exact ⟨s', rfl, h⟩
theorem goB_inl : ∀ (t : List TBar) (s : SB) (k : Int), goB s t = .inl k → k ≠ 0
  | [], s, k, h => by cases h
  | x :: t, s, k, h => by
    unfold goB at h
    cases hs : stB x s with
    | inr s' => rw [hs] at h; exact goB_inl t s' k h
    | inl k' =>
      rw [hs] at h
      cases h
      unfold stB at hs
      intro h0
      subst h0
      revert hs
      generalize bad x = b1
      generalize (x.Open && s.1) = b2
      generalize (x.Open || s.1) = b3
      generalize decide (x.Ending < bif x.Open then 0 else s.2.1) = b4
      generalize (x.Close != 0) = b5
      generalize (x.Ending != 0) = b6
      cases b1 <;> cases b2 <;> cases b3 <;> cases b4 <;> cases b5 <;> cases b6 <;> simp
theorem goB_all : ∀ (t : List TBar) (s r : SB), goB s t = .inr r → ∀ x ∈ t, bad x = false
  | [], _, _, _, x, hx => by cases hx
  | y :: t, s, r, h, x, hx => by
    obtain ⟨s', h1, h2⟩ := goB_cons h
    rcases List.mem_cons.1 hx with rfl | hx
    · exact (stB_inr h1).1
    · exact goB_all t s' r h2 x hx
theorem drop_cons {α : Type} {bs t : List α} {i : Nat} {x : α} (h : bs.drop i = x :: t) : bs[i]? = some x ∧ bs.drop (i + 1) = t := by
  constructor
  · have : (bs.drop i)[0]? = some x := by rw [h]; rfl
    simpa using this
  · rw [← List.drop_drop, h]; rfl
theorem progLoop (bs : List TBar) (hl : bs.length ≤ 600) : ∀ (t : List TBar) (i : Nat) (s : SB), bs.drop i = t → (s.1 = true → ∃ p, 1 ≤ i ∧ bs[i - 1]? = some p ∧ p.Ending = s.2.1) →
    rangeM (m_piece_rulesFault_l1 bs) i t s.1 = some (match goB s t with | .inl k => .ret k | .inr s' => .brk s'.1)
  | [], i, s, _, _ => rfl
  | x :: t, i, s, hd, h => by
    obtain ⟨hx, hd'⟩ := drop_cons hd
    have hi : i < bs.length := (List.getElem?_eq_some_iff.1 hx).1
    rw [rangeM_cons, progStep bs i x s (fun ho => by
      obtain ⟨p, h1, h2, h3⟩ := h ho
      exact ⟨p, getI_of (n := i - 1) (by rw [w64_id (by omega)]; omega) h2, h3⟩), Option.bind_some]
    unfold goB
    cases hs : stB x s with
    | inl k => rfl
    | inr s' =>
      refine progLoop bs hl t (i + 1) s' hd' fun ho => ⟨x, by omega, by simpa using hx, ?_⟩
      rcases (stB_inr hs).2.2 with ⟨_, h2, _, _, rfl⟩ | ⟨_, _, rfl⟩ | ⟨_, _, rfl⟩
      · rw [h2] at ho; cases ho
      · rfl
      · cases ho
theorem rulesFault_spec (bs : List TBar) (hl : bs.length ≤ 600) : m_piece_rulesFault bs = some (match goB (false, 0, 0, false) bs with | .inl k => k | .inr _ => 0) := by
  unfold m_piece_rulesFault
  have := progLoop bs hl bs 0 (false, 0, 0, false) rfl (by simp)
  rw [this]
  cases goB (false, 0, 0, false) bs <;> rfl
abbrev Grp := Nat × Nat × Int
def toRep (g : Grp) : Tpiece_repeat := ⟨g.1, g.2.1, g.2.2⟩
def gsB : Option Nat → Nat → List TBar → List Grp
  | _, _, [] => []
  | o, i, x :: t => match (bif x.Open then some i else o) with
    | none => (i, i + 1, 1) :: gsB none (i + 1) t
    | some s => if x.Close > 0 then (s, i + 1, x.Close) :: gsB none (i + 1) t else gsB (some s) (i + 1) t
def endB : Option Nat → Nat → List TBar → Option Nat
  | o, _, [] => o
  | o, i, x :: t => match (bif x.Open then some i else o) with
    | none => endB none (i + 1) t
    | some s => if x.Close > 0 then endB none (i + 1) t else endB (some s) (i + 1) t
def stO : Option Nat → Int
  | none => -1
  | some s => s
theorem repLoop : ∀ (t : List TBar) (i : Nat) (o : Option Nat) (acc : List Tpiece_repeat), i + t.length ≤ 600 → acc.length ≤ i →
    rangeM m_piece_repeats_l1 i t (stO o, acc) = some (.brk (stO (endB o i t), acc ++ (gsB o i t).map toRep))
  | [], i, o, acc, _, _ => by simp [gsB, endB]
  | x :: t, i, o, acc, hi, ha => by
    simp only [List.length_cons] at hi
    have hap : ∀ z : Tpiece_repeat, appM 24 acc [z] = some (acc ++ [z]) := fun z => appM_of (by simp; omega) (by omega)
    have hw : w64 ((i : Int) + 1) = ((i + 1 : Nat) : Int) := by rw [w64_id (by omega)]; omega
    have h0 : (ifB x.Open (some (.inl (i : Int))) (some (.inl (stO o))) : Option (Int ⊕ (Flow (Int × (List Tpiece_repeat)) ((List Tpiece_repeat) × Bool)))) = some (.inl (stO (bif x.Open then some i else o))) := by cases x.Open <;> rfl
    have hstep : m_piece_repeats_l1 i x (stO o, acc) = some (.nxt (match (bif x.Open then some i else o) with
      | none => (stO none, acc ++ [toRep (i, i + 1, 1)])
      | some s => if x.Close > 0 then (stO none, acc ++ [toRep (s, i + 1, x.Close)]) else (stO (some s), acc))) := by
      unfold m_piece_repeats_l1
      show (ifB x.Open (some (.inl (i : Int))) (some (.inl (stO o))) : Option (Int ⊕ (Flow (Int × (List Tpiece_repeat)) ((List Tpiece_repeat) × Bool)))).bind _ = _
      rw [h0]
      simp only [Option.bind_some, fin_inl, hap]
      cases (bif x.Open then some i else o) with
      | none => simp [stO, hw, toRep]
      | some s =>
        have hs : ¬ ((s : Int) < 0) := by omega
        by_cases hc : x.Close > 0
        · simp [stO, hw, toRep, hc, hs]
        · simp [stO, hc, hs]
    rw [rangeM_cons, hstep, Option.bind_some, run_nxt]
    unfold gsB endB
    cases (bif x.Open then some i else o) with
    | none =>
      have := repLoop t (i + 1) none (acc ++ [toRep (i, i + 1, 1)]) (by omega) (by simp; omega)
      simp only [this, List.map_cons, List.append_assoc, List.singleton_append]
    | some s =>
      by_cases hc : x.Close > 0
      · have := repLoop t (i + 1) none (acc ++ [toRep (s, i + 1, x.Close)]) (by omega) (by simp; omega)
        simp only [hc, if_true, this, List.map_cons, List.append_assoc, List.singleton_append]
      · have := repLoop t (i + 1) (some s) acc (by omega) (by omega)
        simp only [hc, if_false, this]
theorem gsB_mem : ∀ (t : List TBar) (i : Nat) (o : Option Nat), (∀ x ∈ t, bad x = false) → (∀ s, o = some s → s ≤ i) → ∀ g ∈ gsB o i t, g.1 ≤ g.2.1 ∧ g.2.1 ≤ i + t.length ∧ 1 ≤ g.2.2 ∧ g.2.2 ≤ 9
  | [], i, o, _, _, g, hg => by simp [gsB] at hg
  | x :: t, i, o, hb, ho, g, hg => by
    unfold gsB at hg
    have hb' : ∀ y ∈ t, bad y = false := fun y hy => hb y (List.mem_cons_of_mem _ hy)
    have hx := notbad x (hb x (List.mem_cons_self ..))
    have ho' : ∀ s, (bif x.Open then some i else o) = some s → s ≤ i := by
      intro s hs
      cases hop : x.Open
      · rw [hop] at hs; exact ho s hs
      · rw [hop] at hs; cases hs; exact Nat.le_refl _
    revert hg ho'
    cases (bif x.Open then some i else o) with
    | none =>
      intro hg _
      rcases List.mem_cons.1 hg with rfl | hg
      · simp only [List.length_cons]; omega
      · have := gsB_mem t (i + 1) none hb' (by simp) g hg
        simp only [List.length_cons]; omega
    | some s =>
      intro hg ho'
      have hs := ho' s rfl
      by_cases hc : x.Close > 0
      · simp only [hc, if_true] at hg
        rcases List.mem_cons.1 hg with rfl | hg
        · have := hx.2.2.2.1 (by omega)
          simp only [List.length_cons]; omega
        · have := gsB_mem t (i + 1) none hb' (by simp) g hg
          simp only [List.length_cons]; omega
      · simp only [hc, if_false] at hg
        have := gsB_mem t (i + 1) (some s) hb' (by intro q hq; cases hq; omega) g hg
        simp only [List.length_cons]; omega
theorem gsB_len : ∀ (t : List TBar) (i : Nat) (o : Option Nat), (gsB o i t).length ≤ t.length
  | [], i, o => by simp [gsB]
  | x :: t, i, o => by
    unfold gsB
    have h1 := gsB_len t (i + 1) none
    cases (bif x.Open then some i else o) with
    | none => simp; omega
    | some s =>
      have h2 := gsB_len t (i + 1) (some s)
      by_cases hc : x.Close > 0
      · simp [hc]; omega
      · simp [hc]; omega
def overB (bs : List TBar) (a i : Nat) (k : Int) : Bool := ((bs.drop a).take (i - a)).any fun x => decide (x.Ending > k)
def badG (bs : List TBar) (g : Grp) : Bool := decide (g.2.2 > 1) && overB bs g.1 g.2.1 g.2.2
theorem rep3Loop (r : Tpiece_repeat)  : ∀ (xs : List TBar) (j : Nat), rangeM (m_piece_repeats_l3 r) j xs () = some (bif (decide (r.times > 1) && xs.any fun x => decide (x.Ending > r.times)) then .ret (.ret ([], false)) else .brk ())
  | [], j => by simp
  | x :: t, j => by
    rw [rangeM_cons]
    have h : m_piece_repeats_l3 r j x () = some (bif (decide (r.times > 1) && decide (x.Ending > r.times)) then .ret (.ret ([], false)) else .nxt ()) := by
      unfold m_piece_repeats_l3
      cases decide (r.times > 1) <;> cases decide (x.Ending > r.times) <;> rfl
    rw [h, Option.bind_some, List.any_cons]
    have ih := rep3Loop r t (j + 1)
    revert ih
    generalize (t.any fun x => decide (x.Ending > r.times)) = b
    cases decide (r.times > 1) <;> cases decide (x.Ending > r.times) <;> intro ih <;> simp [ih]
theorem rep2Loop (bs : List TBar)  : ∀ (gs : List Grp) (j : Nat), (∀ g ∈ gs, g.1 ≤ g.2.1 ∧ g.2.1 ≤ bs.length) → rangeM (m_piece_repeats_l2 bs) j (gs.map toRep) () = some (bif gs.any (badG bs) then .ret ([], false) else .brk ())
  | [], j, _ => by simp
  | g :: gs, j, h => by
    have hg := h g (List.mem_cons_self ..)
    have ih := rep2Loop bs gs (j + 1) (fun g' hg' => h g' (List.mem_cons_of_mem _ hg'))
    have hs : m_piece_repeats_l2 bs j (toRep g) () = some (bif badG bs g then .ret ([], false) else .nxt ()) := by
      unfold m_piece_repeats_l2
      show (sliceI bs (g.1 : Int) (g.2.1 : Int)).bind _ = _
      rw [sliceI_of (a := g.1) (b := g.2.1) rfl rfl hg.1 hg.2, Option.bind_some, rep3Loop]
      show (Option.some (bif badG bs g then Flow.ret (Flow.ret ([], false)) else Flow.brk ())).bind _ = _
      cases badG bs g <;> rfl
    rw [List.map_cons, rangeM_cons, hs, Option.bind_some, List.any_cons]
    cases hb : badG bs g
    · simpa using ih
    · rfl
theorem repeats_spec (bs : List TBar) (hl : bs.length ≤ 600) (hb : ∀ x ∈ bs, bad x = false) :
    m_piece_repeats bs = some (bif (gsB none 0 bs).any (badG bs) then ([], false) else ((gsB none 0 bs).map toRep, (endB none 0 bs).isNone)) := by
  unfold m_piece_repeats
  have h1 := repLoop bs 0 none [] (by omega) (by simp)
  have h2 := rep2Loop bs (gsB none 0 bs) 0 (fun g hg => by have := gsB_mem bs 0 none hb (by simp) g hg; omega)
  rw [show ((-1, []) : Int × List Tpiece_repeat) = (stO none, []) from rfl, h1, Option.bind_some, fin_brk]
  simp only [List.nil_append, h2, Option.bind_some]
  cases (gsB none 0 bs).any (badG bs) with
  | true => rfl
  | false =>
    simp only [cond_false, fin_brk]
    cases endB none 0 bs with
    | none => rfl
    | some s =>
      have h0 : decide (stO (some s) < 0) = false := decide_eq_false (by show ¬ ((s : Int) < 0); omega)
      rw [h0]; rfl
theorem overB_succ {bs : List TBar} {a i : Nat} {x : TBar} {k : Int} (hx : bs[i]? = some x) (ha : a ≤ i) : overB bs a (i + 1) k = (overB bs a i k || decide (x.Ending > k)) := by
  unfold overB
  have e : i + 1 - a = (i - a) + 1 := by omega
  have e2 : (bs.drop a)[i - a]? = some x := by rw [List.getElem?_drop]; rw [show a + (i - a) = i by omega]; exact hx
  rw [e, List.take_add_one, e2, List.any_append]
  simp
theorem wrong_spec (bs : List TBar) : ∀ (t : List TBar) (i : Nat) (o : Option Nat) (s r : SB), bs.drop i = t → goB s t = .inr r → o.isSome = s.1 →
    (∀ a, o = some a → a ≤ i ∧ ∀ k, 0 ≤ k → decide (s.2.2.1 > k) = overB bs a i k) →
    (endB o i t).isSome = r.1 ∧ r.2.2.2 = (s.2.2.2 || (gsB o i t).any (badG bs))
  | [], i, o, s, r, _, h, ho, _ => by
    cases h
    simp [endB, gsB, ho]
  | x :: t, i, o, s, r, hd, h, ho, hm => by
    obtain ⟨hx, hd'⟩ := drop_cons hd
    obtain ⟨s', h1, h2⟩ := goB_cons h
    obtain ⟨hb, hop, hc⟩ := stB_inr h1
    have hnb := notbad x hb
    unfold endB gsB
    -- the group that is open at this bar
    have key : ∀ a, (bif x.Open then some i else o) = some a → a ≤ i ∧ ∀ k, 0 ≤ k → decide (max (bif x.Open then 0 else s.2.2.1) x.Ending > k) = overB bs a (i + 1) k := by
      intro a ha
      cases hxo : x.Open with
      | true =>
        rw [hxo] at ha
        cases ha
        refine ⟨Nat.le_refl _, fun k hk => ?_⟩
        rw [overB_succ hx (Nat.le_refl _)]
        have : overB bs i i k = false := by unfold overB; simp
        rw [this, Bool.false_or, cond_true]
        exact decide_eq_decide.2 (by omega)
      | false =>
        rw [hxo] at ha
        obtain ⟨h1, h2⟩ := hm a ha
        refine ⟨h1, fun k hk => ?_⟩
        rw [overB_succ hx h1, ← h2 k hk, cond_false, ← Bool.decide_or]
        exact decide_eq_decide.2 (by omega)
    have key2 : (bif x.Open then some i else o).isSome = (x.Open || s.1) := by
      cases x.Open
      · simpa using ho
      · rfl
    revert key key2
    rcases hc with ⟨c1, c2, c3, c4, rfl⟩ | ⟨c1, c2, rfl⟩ | ⟨c1, c2, rfl⟩
    · cases (bif x.Open then some i else o) with
      | some a => intro _ k2; rw [c1, c2] at k2; cases k2
      | none =>
        intro _ _
        obtain ⟨e1, e2⟩ := wrong_spec bs t (i + 1) none s' r hd' h2 (by simp [c2]) (by simp)
        refine ⟨e1, ?_⟩
        simp only [List.any_cons]
        rw [e2]
        have : badG bs (i, i + 1, 1) = false := by unfold badG; simp
        rw [this, Bool.false_or]
    · cases (bif x.Open then some i else o) with
      | none => intro _ k2; rcases c1 with c1 | c1 <;> simp [c1] at k2
      | some a =>
        intro k1 _
        obtain ⟨q1, q2⟩ := k1 a rfl
        obtain ⟨e1, e2⟩ := wrong_spec bs t (i + 1) (some a) _ r hd' h2 rfl (by
          intro b hb'
          cases hb'
          exact ⟨by omega, q2⟩)
        have hc0 : ¬ (x.Close > 0) := by omega
        simp only [hc0, if_false]
        exact ⟨e1, e2⟩
    · cases (bif x.Open then some i else o) with
      | none => intro _ k2; rcases c1 with c1 | c1 <;> simp [c1] at k2
      | some a =>
        intro k1 _
        obtain ⟨q1, q2⟩ := k1 a rfl
        have hcl := hnb.2.2.2.1 c2
        obtain ⟨e1, e2⟩ := wrong_spec bs t (i + 1) none _ r hd' h2 rfl (by simp)
        have hc0 : x.Close > 0 := by omega
        have hc1 : x.Close > 1 := by omega
        simp only [hc0, if_true, List.any_cons]
        refine ⟨e1, ?_⟩
        rw [e2]
        have : badG bs (a, i + 1, x.Close) = overB bs a (i + 1) x.Close := by unfold badG; simp [hc1]
        rw [this, ← q2 x.Close (by omega), Bool.or_assoc]
end Go.G
