/- Plain laws of the models; no condition beyond what each theorem says. -/
import Derived.Test.YtlhfimbpjdfdgacGreatDoorLG0
namespace Go.G
open Go Go.J
end Go.G
namespace Go.G
open Go Go.J
theorem IndexI_sp (xs : List Int) (a : Int) : ∃ r, m_slices_Index_int_int xs a = some r ∧ (r ≥ 0 ↔ a ∈ xs) := by
 have key : ∀ (t : List Int) (i : Nat), (∃ n : Nat, rangeM (m_slices_Index_int_int_l1 a) i t () = some (.ret (n : Int)) ∧ a ∈ t) ∨ (rangeM (m_slices_Index_int_int_l1 a) i t () = some (.brk ()) ∧ a ∉ t) := by
  intro t
  induction t with
  | nil => intro i; exact .inr ⟨rfl, by simp⟩
  | cons x t ih =>
   intro i
   by_cases h : a = x
   ·exact .inl ⟨i, by rw [rangeM_cons]; simp [m_slices_Index_int_int_l1, h], by simp [h]⟩
   ·have hb : (a == x) = false := by simpa using h
    have e : m_slices_Index_int_int_l1 a i x () = some (.nxt ()) := by simp [m_slices_Index_int_int_l1, hb]
    rcases ih (i + 1) with ⟨n, h1, h2⟩ | ⟨h1, h2⟩
    ·exact .inl ⟨n, by rw [rangeM_cons, e]; simpa using h1, by simp [h2]⟩
    ·exact .inr ⟨by rw [rangeM_cons, e]; simpa using h1, by simp [h, h2]⟩
 unfold m_slices_Index_int_int
 rcases key xs 0 with ⟨n, h1, h2⟩ | ⟨h1, h2⟩
 ·exact ⟨n, by rw [h1]; rfl, by simp [h2]⟩
 ·exact ⟨-1, by rw [h1]; rfl, by simp [h2]⟩
theorem Contains_spec (xs : List Int) (a : Int) : m_slices_Contains_int_int xs a = some (decide (a ∈ xs)) := by
 obtain ⟨r, h, h'⟩ := IndexI_sp xs a
 unfold m_slices_Contains_int_int
 rw [h, Option.bind_some]
 exact congrArg some (decide_eq_decide.2 h')
def outB (a b c : Int) : Bool := decide (a < b) || decide (a > c)
theorem OutB_spec (a b c : Int) : m_kit_Outside a b c = some (outB a b c) := by
 unfold m_kit_Outside outB
 cases decide (a < b) <;> rfl
theorem inB_spec (a b c : Int) : m_gleeref2_in a b c = some (!outB a b c) := by
 unfold m_gleeref2_in outB
 by_cases h1 : a < b
 ·simp [h1, Int.not_le.2 h1]
 ·by_cases h2 : a > c
  ·simp [h1, h2, Int.not_lt.1 h1, Int.not_le.2 h2]
  ·simp [h1, h2, Int.not_lt.1 h1, Int.not_lt.1 h2]
def unitB (a : Int) : Bool := decide (a ∈ [(1 : Int), 2, 4, 8, 16])
def bad (x : TBar) : Bool := outB x.Beats 1 16 || !unitB x.Unit || (x.Close != 0 && outB x.Close 2 9) || outB x.Ending 0 9
theorem bad_mk (beats unit cl en : Int) (op : Bool) : bad ⟨beats, unit, cl, en, op⟩ = (outB beats 1 16 || !decide (unit ∈ [(1 : Int), 2, 4, 8, 16]) || (cl != 0 && outB cl 2 9) || outB en 0 9) := rfl
theorem barFault_spec (x : TBar) : m_piece_barFault x = some (bif bad x then 1 else 0) := by
 unfold m_piece_barFault m_piece_isUnit bad
 simp only [OutB_spec, Contains_spec, Option.bind_some]
 show _ = some (bif outB x.Beats 1 16 || !decide (x.Unit ∈ [(1 : Int), 2, 4, 8, 16]) || (x.Close != 0 && outB x.Close 2 9) || outB x.Ending 0 9 then 1 else 0)
 generalize outB x.Beats 1 16 = b1
 generalize decide (x.Unit ∈ [(1 : Int), 2, 4, 8, 16]) = b2
 generalize (x.Close != 0) = b3
 generalize outB x.Close 2 9 = b4
 generalize outB x.Ending 0 9 = b5
 cases b1 <;> cases b2 <;> cases b3 <;> cases b4 <;> cases b5 <;> rfl
abbrev SB := Bool × Int × Int × Bool
def stB (x : TBar) (s : SB) : Int ⊕ SB :=
 ifB (bad x) (.inl 1) (ifB (x.Open && s.1) (.inl 16)
  (ifB (x.Open || s.1) (ifB (decide (x.Ending < bif x.Open then 0 else s.2.1)) (.inl 16)
    (ifB (x.Close != 0) (.inr (false, x.Ending, max (bif x.Open then 0 else s.2.2.1) x.Ending, s.2.2.2 || decide (max (bif x.Open then 0 else s.2.2.1) x.Ending > x.Close)))
     (.inr (true, x.Ending, max (bif x.Open then 0 else s.2.2.1) x.Ending, s.2.2.2))))
   (ifB (x.Close != 0 || x.Ending != 0) (.inl 16) (.inr s))))
def goB : SB → List TBar → Int ⊕ SB
 | s, [] => .inr s
 | s, x :: t => match stB x s with | .inl k => .inl k | .inr s' => goB s' t
theorem refStep (i : Nat) (x : TBar) (s : SB) : m_gleeref2_BarsFault_l1 i x s = some (match stB x s with | .inl k => .ret k | .inr s' => .nxt s') := by
 obtain ⟨o, e, m, w⟩ := s
 obtain ⟨beats, unit, cl, en, op⟩ := x
 unfold m_gleeref2_BarsFault_l1 stB
 rw [bad_mk]
 simp only [inB_spec, Contains_spec, Option.bind_some]
 generalize outB beats 1 16 = b1
 generalize decide (unit ∈ [(1 : Int), 2, 4, 8, 16]) = b2
 generalize (cl != 0) = b3
 generalize outB cl 2 9 = b4
 generalize outB en 0 9 = b5
 generalize (en != 0) = b6
 have hbad : ∀ k : Bool → Option (Flow (Bool × Int × Int × Bool) Int), (ifB (!!b1) (some (Sum.inl true)) (ifB (!b2) (some (Sum.inl true)) (ifB b3 (ifB (!!b4) (some (Sum.inl true)) (some (Sum.inl (!!b5)))) (some (Sum.inl (!!b5))))) : Option (Bool ⊕ (Flow (Bool × Int × Int × Bool) Int))).bind (fun z => Sum.fin z k) = k (b1 || !b2 || (b3 && b4) || b5) := by
  intro k
  cases b1 <;> cases b2 <;> cases b3 <;> cases b4 <;> cases b5 <;> rfl
 rw [hbad]
 generalize (b1 || !b2 || (b3 && b4) || b5) = b
 cases b with
 | true => rfl
 | false =>
  cases op <;> cases o <;> cases b3 <;> cases w <;> simp only [ifB_true, ifB_false, Option.bind_some, fin_inl, fin_inr, Bool.not_true, Bool.not_false, Bool.and_true, Bool.and_false, Bool.or_true, Bool.or_false, cond_true, cond_false, Bool.true_or, Bool.false_or] <;> first | rfl | (cases b6 <;> rfl) | (by_cases h : en < e <;> by_cases h' : en < 0 <;> simp [h, h'])
theorem notbad (x : TBar) (h : bad x = false) : 1 ≤ x.Beats ∧ x.Beats ≤ 16 ∧ (x.Unit = 1 ∨ x.Unit = 2 ∨ x.Unit = 4 ∨ x.Unit = 8 ∨ x.Unit = 16) ∧ (x.Close ≠ 0 → 2 ≤ x.Close ∧ x.Close ≤ 9) ∧ 0 ≤ x.Ending ∧ x.Ending ≤ 9 := by
 unfold bad outB unitB at h
 simp only [Bool.or_eq_false_iff, decide_eq_false_iff_not, Bool.not_eq_false', decide_eq_true_eq, Bool.and_eq_false_iff] at h
 obtain ⟨⟨⟨⟨h1, h2⟩, h3⟩, h4⟩, h5, h6⟩ := h
 simp only [List.mem_cons, List.not_mem_nil, or_false] at h3
 refine ⟨by omega, by omega, h3, fun hc => ?_, by omega, by omega⟩
 rcases h4 with h4 | ⟨h4, h4'⟩
 ·simp at h4; exact (hc h4).elim
 ·omega
theorem progStep (bs : List TBar) (i : Nat) (x : TBar) (s : SB) (h : s.1 = true → ∃ p, getI bs (w64 ((i : Int) - 1)) = some p ∧ p.Ending = s.2.1) :
  m_piece_rulesFault_l1 bs i x s.1 = some (match stB x s with | .inl k => .ret k | .inr s' => .nxt s'.1) := by
 obtain ⟨o, e, m, w⟩ := s
 unfold m_piece_rulesFault_l1 stB
 rw [barFault_spec, Option.bind_some]
 cases hb : bad x with
 | true => rfl
 | false =>
  have hE : ¬ x.Ending < 0 := by have := notbad x hb; omega
  obtain ⟨beats, unit, cl, en, op⟩ := x
  simp only at hE h
  have hc : (cl != 0) = !(cl == 0) := rfl
  cases o with
  | true =>
   obtain ⟨p, hp, rfl⟩ := h rfl
   cases op <;> cases hcl : (cl == 0) <;> by_cases hlt : en < p.Ending <;> simp [hp, hc, hcl, hlt, hE]
  | false =>
   cases op <;> cases hcl : (cl == 0) <;> cases hen : (en != 0) <;> simp [hc, hcl, hE]
theorem barRef : ∀ (t : List TBar) (i : Nat) (s : SB), rangeM m_gleeref2_BarsFault_l1 i t s = some (match goB s t with | .inl k => .ret k | .inr s' => .brk s')
 | [], i, s => rfl
 | x :: t, i, s => by
  rw [rangeM_cons, refStep, Option.bind_some]
  unfold goB
  cases h : stB x s with
  | inl k => rfl
  | inr s' => exact barRef t (i + 1) s'
theorem stB_inr {x : TBar} {s s' : SB} (h : stB x s = .inr s') : bad x = false ∧ (x.Open = true → s.1 = false) ∧
    ((x.Open = false ∧ s.1 = false ∧ x.Close = 0 ∧ x.Ending = 0 ∧ s' = s) ∨
     ((x.Open = true ∨ s.1 = true) ∧ x.Close = 0 ∧ s' = (true, x.Ending, max (bif x.Open then 0 else s.2.2.1) x.Ending, s.2.2.2)) ∨
     ((x.Open = true ∨ s.1 = true) ∧ x.Close ≠ 0 ∧ s' = (false, x.Ending, max (bif x.Open then 0 else s.2.2.1) x.Ending, s.2.2.2 || decide (max (bif x.Open then 0 else s.2.2.1) x.Ending > x.Close)))) := by
  unfold stB at h
  cases hb : bad x with
  | true => rw [hb] at h; cases h
  | false =>
    rw [hb, ifB_false] at h
    cases ho : x.Open <;> cases hs : s.1 <;> cases hc : (x.Close != 0) <;> cases he : (x.Ending != 0) <;> simp only [ho, hs, hc, he, ifB_true, ifB_false, Bool.and_true, Bool.and_false, Bool.or_true, Bool.or_false, cond_true, cond_false, reduceCtorEq] at h
    all_goals simp at hc he
    all_goals first
      | (refine ⟨rfl, by simp, ?_⟩
         cases h
         exact .inl ⟨rfl, rfl, hc, he, rfl⟩)
      | (refine ⟨rfl, by simp, ?_⟩
         split at h
         · cases h
         · cases h
           first | exact .inr (.inl ⟨by simp, hc, rfl⟩) | exact .inr (.inr ⟨by simp, hc, rfl⟩))
      | (refine ⟨rfl, by simp, ?_⟩
         rw [ifB_ite] at h
         split at h
         · cases h
         · cases h
           first | exact .inr (.inl ⟨by simp, hc, rfl⟩) | exact .inr (.inr ⟨by simp, hc, rfl⟩))
theorem goB_cons {s r : SB} {x : TBar} {t : List TBar} (h : goB s (x :: t) = .inr r) : ∃ s', stB x s = .inr s' ∧ goB s' t = .inr r := by
 unfold goB at h
 cases hs : stB x s with
 | inl k => rw [hs] at h; cases h
 | inr s' => rw [hs] at h; exact ⟨s', rfl, h⟩
theorem goB_inl : ∀ (t : List TBar) (s : SB) (k : Int), goB s t = .inl k → k ≠ 0
 | [], s, k, h => by cases h
 | x :: t, s, k, h => by
  unfold goB at h
  cases hs : stB x s with
  | inr s' => rw [hs] at h; exact goB_inl t s' k h
  | inl k' =>
   rw [hs] at h
   cases h
   unfold stB at hs
   intro h0
   subst h0
   revert hs
   generalize bad x = b1
   generalize (x.Open && s.1) = b2
   generalize (x.Open || s.1) = b3
   generalize decide (x.Ending < bif x.Open then 0 else s.2.1) = b4
   generalize (x.Close != 0) = b5
   generalize (x.Ending != 0) = b6
   cases b1 <;> cases b2 <;> cases b3 <;> cases b4 <;> cases b5 <;> cases b6 <;> simp
theorem goB_all : ∀ (t : List TBar) (s r : SB), goB s t = .inr r → ∀ x ∈ t, bad x = false
 | [], _, _, _, x, hx => by cases hx
 | y :: t, s, r, h, x, hx => by
  obtain ⟨s', h1, h2⟩ := goB_cons h
  rcases List.mem_cons.1 hx with rfl | hx
  ·exact (stB_inr h1).1
  ·exact goB_all t s' r h2 x hx
theorem drop_cons {α : Type} {bs t : List α} {i : Nat} {x : α} (h : bs.drop i = x :: t) : bs[i]? = some x ∧ bs.drop (i + 1) = t := by
 constructor
 ·have : (bs.drop i)[0]? = some x := by rw [h]; rfl
  simpa using this
 ·rw [← List.drop_drop, h]; rfl
theorem barProg (bs : List TBar) (hl : bs.length ≤ 600) : ∀ (t : List TBar) (i : Nat) (s : SB), bs.drop i = t → (s.1 = true → ∃ p, 1 ≤ i ∧ bs[i - 1]? = some p ∧ p.Ending = s.2.1) →
  rangeM (m_piece_rulesFault_l1 bs) i t s.1 = some (match goB s t with | .inl k => .ret k | .inr s' => .brk s'.1)
 | [], i, s, _, _ => rfl
 | x :: t, i, s, hd, h => by
  obtain ⟨hx, hd'⟩ := drop_cons hd
  have hi : i < bs.length := (List.getElem?_eq_some_iff.1 hx).1
  rw [rangeM_cons, progStep bs i x s (fun ho => by
   obtain ⟨p, h1, h2, h3⟩ := h ho
   exact ⟨p, getI_of (n := i - 1) (by rw [w64_id (by omega)]; omega) h2, h3⟩), Option.bind_some]
  unfold goB
  cases hs : stB x s with
  | inl k => rfl
  | inr s' =>
   refine barProg bs hl t (i + 1) s' hd' fun ho => ⟨x, by omega, by simpa using hx, ?_⟩
   rcases (stB_inr hs).2.2 with ⟨_, h2, _, _, rfl⟩ | ⟨_, _, rfl⟩ | ⟨_, _, rfl⟩
   ·rw [h2] at ho; cases ho
   ·rfl
   ·cases ho
theorem rulesFault_spec (bs : List TBar) (hl : bs.length ≤ 600) : m_piece_rulesFault bs = some (match goB (false, 0, 0, false) bs with | .inl k => k | .inr _ => 0) := by
 unfold m_piece_rulesFault
 have := barProg bs hl bs 0 (false, 0, 0, false) rfl (by simp)
 rw [this]
 cases goB (false, 0, 0, false) bs <;> rfl
end Go.G
namespace Go.G
open Go Go.J
abbrev Grp := Nat × Nat × Int
def toRep (g : Grp) : Tpiece_repeat := ⟨g.1, g.2.1, g.2.2⟩
def gsB : Option Nat → Nat → List TBar → List Grp
 | _, _, [] => []
 | o, i, x :: t => match (bif x.Open then some i else o) with
  | none => (i, i + 1, 1) :: gsB none (i + 1) t
  | some s => if x.Close > 0 then (s, i + 1, x.Close) :: gsB none (i + 1) t else gsB (some s) (i + 1) t
def endB : Option Nat → Nat → List TBar → Option Nat
 | o, _, [] => o
 | o, i, x :: t => match (bif x.Open then some i else o) with
  | none => endB none (i + 1) t
  | some s => if x.Close > 0 then endB none (i + 1) t else endB (some s) (i + 1) t
def stO : Option Nat → Int
 | none => -1
 | some s => s
theorem repLoop : ∀ (t : List TBar) (i : Nat) (o : Option Nat) (acc : List Tpiece_repeat), i + t.length ≤ 600 → acc.length ≤ i →
  rangeM m_piece_repeats_l1 i t (stO o, acc) = some (.brk (stO (endB o i t), acc ++ (gsB o i t).map toRep))
 | [], i, o, acc, _, _ => by simp [gsB, endB]
 | x :: t, i, o, acc, hi, ha => by
  simp only [List.length_cons] at hi
  have hap : ∀ z : Tpiece_repeat, appM 24 acc [z] = some (acc ++ [z]) := fun z => appM_of (by simp; omega) (by omega)
  have hw : w64 ((i : Int) + 1) = ((i + 1 : Nat) : Int) := by rw [w64_id (by omega)]; omega
  have h0 : (ifB x.Open (some (.inl (i : Int))) (some (.inl (stO o))) : Option (Int ⊕ (Flow (Int × (List Tpiece_repeat)) ((List Tpiece_repeat) × Bool)))) = some (.inl (stO (bif x.Open then some i else o))) := by cases x.Open <;> rfl
  have hstep : m_piece_repeats_l1 i x (stO o, acc) = some (.nxt (match (bif x.Open then some i else o) with
   | none => (stO none, acc ++ [toRep (i, i + 1, 1)])
   | some s => if x.Close > 0 then (stO none, acc ++ [toRep (s, i + 1, x.Close)]) else (stO (some s), acc))) := by
   unfold m_piece_repeats_l1
   show (ifB x.Open (some (.inl (i : Int))) (some (.inl (stO o))) : Option (Int ⊕ (Flow (Int × (List Tpiece_repeat)) ((List Tpiece_repeat) × Bool)))).bind _ = _
   rw [h0]
   simp only [Option.bind_some, fin_inl, hap]
   cases (bif x.Open then some i else o) with
   | none => simp [stO, hw, toRep]
   | some s =>
    have hs : ¬ ((s : Int) < 0) := by omega
    by_cases hc : x.Close > 0
    ·simp [stO, hw, toRep, hc, hs]
    ·simp [stO, hc, hs]
  rw [rangeM_cons, hstep, Option.bind_some, run_nxt]
  unfold gsB endB
  cases (bif x.Open then some i else o) with
  | none =>
   have := repLoop t (i + 1) none (acc ++ [toRep (i, i + 1, 1)]) (by omega) (by simp; omega)
   simp only [this, List.map_cons, List.append_assoc, List.singleton_append]
  | some s =>
   by_cases hc : x.Close > 0
   ·have := repLoop t (i + 1) none (acc ++ [toRep (s, i + 1, x.Close)]) (by omega) (by simp; omega)
    simp only [hc, if_true, this, List.map_cons, List.append_assoc, List.singleton_append]
   ·have := repLoop t (i + 1) (some s) acc (by omega) (by omega)
    simp only [hc, if_false, this]
theorem gsB_mem : ∀ (t : List TBar) (i : Nat) (o : Option Nat), (∀ x ∈ t, bad x = false) → (∀ s, o = some s → s ≤ i) → ∀ g ∈ gsB o i t, g.1 ≤ g.2.1 ∧ g.2.1 ≤ i + t.length ∧ 1 ≤ g.2.2 ∧ g.2.2 ≤ 9
 | [], i, o, _, _, g, hg => by simp [gsB] at hg
 | x :: t, i, o, hb, ho, g, hg => by
  unfold gsB at hg
  have hb' : ∀ y ∈ t, bad y = false := fun y hy => hb y (List.mem_cons_of_mem _ hy)
  have hx := notbad x (hb x (List.mem_cons_self ..))
  have ho' : ∀ s, (bif x.Open then some i else o) = some s → s ≤ i := by
   intro s hs
   cases hop : x.Open
   ·rw [hop] at hs; exact ho s hs
   ·rw [hop] at hs; cases hs; exact Nat.le_refl _
  revert hg ho'
  cases (bif x.Open then some i else o) with
  | none =>
   intro hg _
   rcases List.mem_cons.1 hg with rfl | hg
   ·simp only [List.length_cons]; omega
   ·have := gsB_mem t (i + 1) none hb' (by simp) g hg
    simp only [List.length_cons]; omega
  | some s =>
   intro hg ho'
   have hs := ho' s rfl
   by_cases hc : x.Close > 0
   ·simp only [hc, if_true] at hg
    rcases List.mem_cons.1 hg with rfl | hg
    ·have := hx.2.2.2.1 (by omega)
     simp only [List.length_cons]; omega
    ·have := gsB_mem t (i + 1) none hb' (by simp) g hg
     simp only [List.length_cons]; omega
   ·simp only [hc, if_false] at hg
    have := gsB_mem t (i + 1) (some s) hb' (by intro q hq; cases hq; omega) g hg
    simp only [List.length_cons]; omega
theorem gsB_len : ∀ (t : List TBar) (i : Nat) (o : Option Nat), (gsB o i t).length ≤ t.length
 | [], i, o => by simp [gsB]
 | x :: t, i, o => by
  unfold gsB
  have h1 := gsB_len t (i + 1) none
  cases (bif x.Open then some i else o) with
  | none => simp; omega
  | some s =>
   have h2 := gsB_len t (i + 1) (some s)
   by_cases hc : x.Close > 0
   ·simp [hc]; omega
   ·simp [hc]; omega
def overB (bs : List TBar) (a i : Nat) (k : Int) : Bool := ((bs.drop a).take (i - a)).any fun x => decide (x.Ending > k)
def badG (bs : List TBar) (g : Grp) : Bool := decide (g.2.2 > 1) && overB bs g.1 g.2.1 g.2.2
theorem rep3Loop (r : Tpiece_repeat)  : ∀ (xs : List TBar) (j : Nat), rangeM (m_piece_repeats_l3 r) j xs () = some (bif (decide (r.times > 1) && xs.any fun x => decide (x.Ending > r.times)) then .ret (.ret ([], false)) else .brk ())
 | [], j => by simp
 | x :: t, j => by
  rw [rangeM_cons]
  have h : m_piece_repeats_l3 r j x () = some (bif (decide (r.times > 1) && decide (x.Ending > r.times)) then .ret (.ret ([], false)) else .nxt ()) := by
   unfold m_piece_repeats_l3
   cases decide (r.times > 1) <;> cases decide (x.Ending > r.times) <;> rfl
  rw [h, Option.bind_some, List.any_cons]
  have ih := rep3Loop r t (j + 1)
  revert ih
  generalize (t.any fun x => decide (x.Ending > r.times)) = b
  cases decide (r.times > 1) <;> cases decide (x.Ending > r.times) <;> intro ih <;> simp [ih]
theorem rep2Loop (bs : List TBar)  : ∀ (gs : List Grp) (j : Nat), (∀ g ∈ gs, g.1 ≤ g.2.1 ∧ g.2.1 ≤ bs.length) → rangeM (m_piece_repeats_l2 bs) j (gs.map toRep) () = some (bif gs.any (badG bs) then .ret ([], false) else .brk ())
 | [], j, _ => by simp
 | g :: gs, j, h => by
  have hg := h g (List.mem_cons_self ..)
  have ih := rep2Loop bs gs (j + 1) (fun g' hg' => h g' (List.mem_cons_of_mem _ hg'))
  have hs : m_piece_repeats_l2 bs j (toRep g) () = some (bif badG bs g then .ret ([], false) else .nxt ()) := by
   unfold m_piece_repeats_l2
   show (sliceI bs (g.1 : Int) (g.2.1 : Int)).bind _ = _
   rw [sliceI_of (a := g.1) (b := g.2.1) rfl rfl hg.1 hg.2, Option.bind_some, rep3Loop]
   show (Option.some (bif badG bs g then Flow.ret (Flow.ret ([], false)) else Flow.brk ())).bind _ = _
   cases badG bs g <;> rfl
  rw [List.map_cons, rangeM_cons, hs, Option.bind_some, List.any_cons]
  cases hb : badG bs g
  ·simpa using ih
  ·rfl
theorem repeats_spec (bs : List TBar) (hl : bs.length ≤ 600) (hb : ∀ x ∈ bs, bad x = false) :
  m_piece_repeats bs = some (bif (gsB none 0 bs).any (badG bs) then ([], false) else ((gsB none 0 bs).map toRep, (endB none 0 bs).isNone)) := by
 unfold m_piece_repeats
 have h1 := repLoop bs 0 none [] (by omega) (by simp)
 have h2 := rep2Loop bs (gsB none 0 bs) 0 (fun g hg => by have := gsB_mem bs 0 none hb (by simp) g hg; omega)
 rw [show ((-1, []) : Int × List Tpiece_repeat) = (stO none, []) from rfl, h1, Option.bind_some, fin_brk]
 simp only [List.nil_append, h2, Option.bind_some]
 cases (gsB none 0 bs).any (badG bs) with
 | true => rfl
 | false =>
  simp only [cond_false, fin_brk]
  cases endB none 0 bs with
  | none => rfl
  | some s =>
   have h0 : decide (stO (some s) < 0) = false := decide_eq_false (by show ¬ ((s : Int) < 0); omega)
   rw [h0]; rfl
theorem overB_succ {bs : List TBar} {a i : Nat} {x : TBar} {k : Int} (hx : bs[i]? = some x) (ha : a ≤ i) : overB bs a (i + 1) k = (overB bs a i k || decide (x.Ending > k)) := by
 unfold overB
 have e : i + 1 - a = (i - a) + 1 := by omega
 have e2 : (bs.drop a)[i - a]? = some x := by rw [List.getElem?_drop]; rw [show a + (i - a) = i by omega]; exact hx
 rw [e, List.take_add_one, e2, List.any_append]
 simp
theorem wrong_spec (bs : List TBar) : ∀ (t : List TBar) (i : Nat) (o : Option Nat) (s r : SB), bs.drop i = t → goB s t = .inr r → o.isSome = s.1 →
  (∀ a, o = some a → a ≤ i ∧ ∀ k, 0 ≤ k → decide (s.2.2.1 > k) = overB bs a i k) →
  (endB o i t).isSome = r.1 ∧ r.2.2.2 = (s.2.2.2 || (gsB o i t).any (badG bs))
 | [], i, o, s, r, _, h, ho, _ => by
  cases h
  simp [endB, gsB, ho]
 | x :: t, i, o, s, r, hd, h, ho, hm => by
  obtain ⟨hx, hd'⟩ := drop_cons hd
  obtain ⟨s', h1, h2⟩ := goB_cons h
  obtain ⟨hb, hop, hc⟩ := stB_inr h1
  have hnb := notbad x hb
  unfold endB gsB
  -- the group that is open at this bar
  have key : ∀ a, (bif x.Open then some i else o) = some a → a ≤ i ∧ ∀ k, 0 ≤ k → decide (max (bif x.Open then 0 else s.2.2.1) x.Ending > k) = overB bs a (i + 1) k := by
   intro a ha
   cases hxo : x.Open with
   | true =>
    rw [hxo] at ha
    cases ha
    refine ⟨Nat.le_refl _, fun k hk => ?_⟩
    rw [overB_succ hx (Nat.le_refl _)]
    have : overB bs i i k = false := by unfold overB; simp
    rw [this, Bool.false_or, cond_true]
    exact decide_eq_decide.2 (by omega)
   | false =>
    rw [hxo] at ha
    obtain ⟨h1, h2⟩ := hm a ha
    refine ⟨h1, fun k hk => ?_⟩
    rw [overB_succ hx h1, ← h2 k hk, cond_false, ← Bool.decide_or]
    exact decide_eq_decide.2 (by omega)
  have key2 : (bif x.Open then some i else o).isSome = (x.Open || s.1) := by
   cases x.Open
   ·simpa using ho
   ·rfl
  revert key key2
  rcases hc with ⟨c1, c2, c3, c4, rfl⟩ | ⟨c1, c2, rfl⟩ | ⟨c1, c2, rfl⟩
  ·cases (bif x.Open then some i else o) with
   | some a => intro _ k2; rw [c1, c2] at k2; cases k2
   | none =>
    intro _ _
    obtain ⟨e1, e2⟩ := wrong_spec bs t (i + 1) none s' r hd' h2 (by simp [c2]) (by simp)
    refine ⟨e1, ?_⟩
    simp only [List.any_cons]
    rw [e2]
    have : badG bs (i, i + 1, 1) = false := by unfold badG; simp
    rw [this, Bool.false_or]
  ·cases (bif x.Open then some i else o) with
   | none => intro _ k2; rcases c1 with c1 | c1 <;> simp [c1] at k2
   | some a =>
    intro k1 _
    obtain ⟨q1, q2⟩ := k1 a rfl
    obtain ⟨e1, e2⟩ := wrong_spec bs t (i + 1) (some a) _ r hd' h2 rfl (by
     intro b hb'
     cases hb'
     exact ⟨by omega, q2⟩)
    have hc0 : ¬ (x.Close > 0) := by omega
    simp only [hc0, if_false]
    exact ⟨e1, e2⟩
  ·cases (bif x.Open then some i else o) with
   | none => intro _ k2; rcases c1 with c1 | c1 <;> simp [c1] at k2
   | some a =>
    intro k1 _
    obtain ⟨q1, q2⟩ := k1 a rfl
    have hcl := hnb.2.2.2.1 c2
    obtain ⟨e1, e2⟩ := wrong_spec bs t (i + 1) none _ r hd' h2 rfl (by simp)
    have hc0 : x.Close > 0 := by omega
    have hc1 : x.Close > 1 := by omega
    simp only [hc0, if_true, List.any_cons]
    refine ⟨e1, ?_⟩
    rw [e2]
    have : badG bs (a, i + 1, x.Close) = overB bs a (i + 1) x.Close := by unfold badG; simp [hc1]
    rw [this, ← q2 x.Close (by omega), Bool.or_assoc]
end Go.G
namespace Go.G
open Go Go.J
def sungB (bs : List TBar) (p : Int) (n : Nat) : Bool := match bs[n]? with
 | some x => x.Ending == 0 || x.Ending == p
 | none => false
def passF (bs : List TBar) (p : Int) : Nat → Nat → List Int
 | _, 0 => []
 | n, c + 1 => bif sungB bs p n then (n : Int) :: passF bs p (n + 1) c else passF bs p (n + 1) c
def passes (bs : List TBar) (a c : Nat) : Nat → Int → List Int
 | 0, _ => []
 | k + 1, p => passF bs p a c ++ passes bs a c k (p + 1)
def expand (bs : List TBar) : List Grp → List Int
 | [] => []
 | g :: gs => passes bs g.1 (g.2.1 - g.1) g.2.2.toNat 1 ++ expand bs gs
theorem passF_len (bs : List TBar) (p : Int) : ∀ (c n : Nat), (passF bs p n c).length ≤ c
 | 0, n => by simp [passF]
 | c + 1, n => by
  have := passF_len bs p c (n + 1)
  unfold passF
  cases sungB bs p n
  ·simp; omega
  ·simp; omega
theorem passes_len (bs : List TBar) (a c : Nat) : ∀ (k : Nat) (p : Int), (passes bs a c k p).length ≤ k * c
 | 0, p => by simp [passes]
 | k + 1, p => by
  have h1 := passes_len bs a c k (p + 1)
  have h2 := passF_len bs p c a
  unfold passes
  rw [List.length_append, Nat.succ_mul]
  omega
theorem expand_len (bs : List TBar) (m : Nat) : ∀ (gs : List Grp), (∀ g ∈ gs, g.2.1 ≤ m ∧ g.2.2 ≤ 9) → (expand bs gs).length ≤ gs.length * (9 * m)
 | [], _ => by simp [expand]
 | g :: gs, h => by
  have h1 := expand_len bs m gs (fun g' hg' => h g' (List.mem_cons_of_mem _ hg'))
  have hg := h g (List.mem_cons_self ..)
  have h2 := passes_len bs g.1 (g.2.1 - g.1) g.2.2.toNat 1
  have h3 : g.2.2.toNat * (g.2.1 - g.1) ≤ 9 * m := Nat.mul_le_mul (by omega) (by omega)
  unfold expand
  rw [List.length_append, List.length_cons, Nat.succ_mul]
  omega
theorem take_over (n : Nat) (a b : List Int) : (a.take n ++ b).take n = (a ++ b).take n := by
 rw [List.take_append, List.take_append, List.take_take, Nat.min_self, List.length_take]
 by_cases h : n ≤ a.length
 ·rw [Nat.min_eq_left h]; simp; omega
 ·rw [Nat.min_eq_right (by omega)]
theorem sung_step {α : Type} (bs : List TBar) (p : Int) (n : Nat) (hn : n < bs.length) (k : Bool → Option α) :
  ((getI bs (n : Int)).bind fun e24 => ifB (e24.Ending == 0) (k true) ((getI bs (n : Int)).bind fun e25 => k (e25.Ending == p))) = k (sungB bs p n) := by
 have hx : bs[n]? = some bs[n] := List.getElem?_eq_getElem hn
 rw [getI_of rfl hx]
 unfold sungB
 rw [hx]
 simp only [Option.bind_some]
 cases (bs[n].Ending == 0) <;> rfl
theorem prog3 (bs : List TBar) (hl : bs.length ≤ 600) (g : Grp) (hg : g.2.1 ≤ bs.length) (u : Int × List Int) (T : List Int) (s : Int × List Int)
  (hs : ∃ m c : Nat, s.1 = m ∧ m + c = g.2.1 ∧ s.2.length ≤ 2001 ∧ (s.2 ++ passF bs u.1 m c).take 2001 = T) :
  ∃ f, loopM (m_piece_order_l3 bs 2000 (toRep g) u) s = some f ∧ ∃ n, f = .brk (n, T) := by
 refine loopM_post (m_piece_order_l3 bs 2000 (toRep g) u) (fun s => ∃ m c : Nat, s.1 = m ∧ m + c = g.2.1 ∧ s.2.length ≤ 2001 ∧ (s.2 ++ passF bs u.1 m c).take 2001 = T) (fun s => g.2.1 - s.1.toNat) _ ?_ s hs
 rintro ⟨n, acc⟩ ⟨m, c, rfl, hmc, ha, hT⟩
 simp only at ha hT
 have hw : w64 ((m : Int) + 1) = ((m + 1 : Nat) : Int) := by rw [w64_id (by omega)]; omega
 unfold m_piece_order_l3
 show (∃ s', (ifB (decide ((m : Int) < (g.2.1 : Int))) (some (.inl (decide ((acc.length : Int) ≤ 2000)))) (some (.inl false)) : Option (Bool ⊕ (Flow (Int × (List Int)) (Flow (Int × (List Int)) (Flow (List Int) (List Int)))))).bind _ = _ ∧ _) ∨ (∃ s', (ifB (decide ((m : Int) < (g.2.1 : Int))) (some (.inl (decide ((acc.length : Int) ≤ 2000)))) (some (.inl false)) : Option (Bool ⊕ (Flow (Int × (List Int)) (Flow (Int × (List Int)) (Flow (List Int) (List Int)))))).bind _ = _ ∧ _) ∨ (∃ s', (ifB (decide ((m : Int) < (g.2.1 : Int))) (some (.inl (decide ((acc.length : Int) ≤ 2000)))) (some (.inl false)) : Option (Bool ⊕ (Flow (Int × (List Int)) (Flow (Int × (List Int)) (Flow (List Int) (List Int)))))).bind _ = _ ∧ _)
 by_cases h1 : m < g.2.1
 ·obtain ⟨c, rfl⟩ : ∃ c', c = c' + 1 := ⟨c - 1, by omega⟩
  rw [decide_eq_true (show (m : Int) < (g.2.1 : Int) by omega), ifB_true, Option.bind_some]
  by_cases h2 : acc.length ≤ 2000
  ·refine .inl ?_
   rw [decide_eq_true (show (acc.length : Int) ≤ 2000 by omega)]
   simp only [fin_inl, ifB_true]
   rw [sung_step bs u.1 m (by omega) (fun b => some (Sum.inl b))]
   unfold passF at hT
   cases hsu : sungB bs u.1 m with
   | true =>
    rw [hsu] at hT
    simp only [Option.bind_some, fin_inl, ifB_true, appM_of (xs := acc) (ys := [(m : Int)]) (by_ := 8) (by simp; omega) (by omega), hw]
    exact ⟨(((m + 1 : Nat) : Int), acc ++ [(m : Int)]), rfl, ⟨m + 1, c, rfl, by omega, by simp; omega, by simpa using hT⟩, by simp only; omega⟩
   | false =>
    rw [hsu] at hT
    simp only [Option.bind_some, fin_inl, ifB_false, hw]
    exact ⟨(((m + 1 : Nat) : Int), acc), rfl, ⟨m + 1, c, rfl, by omega, by omega, by simpa using hT⟩, by simp only; omega⟩
  ·refine .inr (.inl ?_)
   rw [decide_eq_false (show ¬ (acc.length : Int) ≤ 2000 by omega)]
   refine ⟨(m, acc), rfl, m, ?_⟩
   rw [← hT, List.take_append_of_le_length (by omega), List.take_of_length_le (by omega)]
 ·refine .inr (.inl ?_)
  rw [decide_eq_false (show ¬ (m : Int) < (g.2.1 : Int) by omega)]
  refine ⟨(m, acc), rfl, m, ?_⟩
  have : c = 0 := by omega
  subst this
  rw [← hT]
  unfold passF
  rw [List.append_nil, List.take_of_length_le ha]
theorem prog2 (bs : List TBar) (hl : bs.length ≤ 600) (g : Grp) (hab : g.1 ≤ g.2.1) (hg : g.2.1 ≤ bs.length) (ht : 1 ≤ g.2.2 ∧ g.2.2 ≤ 9) (T : List Int) (s : Int × List Int)
  (hs : ∃ k : Nat, s.1 + k = g.2.2 + 1 ∧ 1 ≤ s.1 ∧ s.2.length ≤ 2001 ∧ (s.2 ++ passes bs g.1 (g.2.1 - g.1) k s.1).take 2001 = T) :
  ∃ f, loopM (m_piece_order_l2 bs 2000 (toRep g)) s = some f ∧ ∃ n, f = .brk (n, T) := by
 refine loopM_post (m_piece_order_l2 bs 2000 (toRep g)) (fun s => ∃ k : Nat, s.1 + k = g.2.2 + 1 ∧ 1 ≤ s.1 ∧ s.2.length ≤ 2001 ∧ (s.2 ++ passes bs g.1 (g.2.1 - g.1) k s.1).take 2001 = T) (fun s => (g.2.2 + 1 - s.1).toNat) _ ?_ s hs
 rintro ⟨p, acc⟩ ⟨k, hk, hp, ha, hT⟩
 simp only at hk hp ha hT
 unfold m_piece_order_l2
 by_cases h1 : p ≤ g.2.2
 ·obtain ⟨k, rfl⟩ : ∃ k', k = k' + 1 := ⟨k - 1, by omega⟩
  obtain ⟨f, hf, n, rfl⟩ := prog3 bs hl g hg (p, acc) ((acc ++ passF bs p g.1 (g.2.1 - g.1)).take 2001) ((g.1 : Int), acc) ⟨g.1, g.2.1 - g.1, rfl, by omega, ha, rfl⟩
  refine .inl ⟨(p + 1, (acc ++ passF bs p g.1 (g.2.1 - g.1)).take 2001), ?_, ⟨k, by simp only; omega, by simp only; omega, by simp only [List.length_take]; omega, ?_⟩, by simp only; omega⟩
  ·show ifB (decide (p ≤ g.2.2)) _ _ = _
   rw [decide_eq_true h1, ifB_true]
   show (loopM (m_piece_order_l3 bs 2000 (toRep g) (p, acc)) ((g.1 : Int), acc)).bind _ = _
   rw [hf, Option.bind_some, fin_brk, w64_id (by omega)]
  ·simp only
   rw [take_over, ← hT, List.append_assoc]
   rfl
 ·refine .inr (.inl ⟨(p, acc), ?_, p, ?_⟩)
  ·show ifB (decide (p ≤ g.2.2)) _ _ = _
   rw [decide_eq_false h1, ifB_false]
  ·have : k = 0 := by omega
   subst this
   rw [← hT]
   unfold passes
   rw [List.append_nil, List.take_of_length_le ha]
theorem prog1 (bs : List TBar) (hl : bs.length ≤ 600) : ∀ (gs : List Grp) (j : Nat) (acc : List Int), (∀ g ∈ gs, g.1 ≤ g.2.1 ∧ g.2.1 ≤ bs.length ∧ 1 ≤ g.2.2 ∧ g.2.2 ≤ 9) → acc.length ≤ 2001 →
  rangeM (m_piece_order_l1 bs 2000) j (gs.map toRep) acc = some (.brk ((acc ++ expand bs gs).take 2001))
 | [], j, acc, _, ha => by
  rw [List.map_nil, rangeM_nil]
  unfold expand
  rw [List.append_nil, List.take_of_length_le ha]
 | g :: gs, j, acc, h, ha => by
  have hg := h g (List.mem_cons_self ..)
  obtain ⟨f, hf, n, rfl⟩ := prog2 bs hl g hg.1 hg.2.1 hg.2.2 ((acc ++ passes bs g.1 (g.2.1 - g.1) g.2.2.toNat 1).take 2001) (1, acc) ⟨g.2.2.toNat, by simp only; omega, by simp, ha, rfl⟩
  have ih := prog1 bs hl gs (j + 1) ((acc ++ passes bs g.1 (g.2.1 - g.1) g.2.2.toNat 1).take 2001) (fun g' hg' => h g' (List.mem_cons_of_mem _ hg')) (by rw [List.length_take]; omega)
  have hst : m_piece_order_l1 bs 2000 j (toRep g) acc = some (.nxt ((acc ++ passes bs g.1 (g.2.1 - g.1) g.2.2.toNat 1).take 2001)) := by
   unfold m_piece_order_l1
   rw [hf, Option.bind_some, fin_brk]
  rw [List.map_cons, rangeM_cons, hst, Option.bind_some, run_nxt, ih, take_over, List.append_assoc]
  rfl
theorem order_spec (bs : List TBar) (hl : bs.length ≤ 600) (gs : List Grp) (h : ∀ g ∈ gs, g.1 ≤ g.2.1 ∧ g.2.1 ≤ bs.length ∧ 1 ≤ g.2.2 ∧ g.2.2 ≤ 9) :
  m_piece_order bs (gs.map toRep) 2000 = some ((expand bs gs).take 2001) := by
 unfold m_piece_order
 rw [prog1 bs hl gs 0 [] h (by simp), Option.bind_some, fin_brk, List.nil_append]
theorem ref4 (bs : List TBar) (l : Nat) (hl : bs.length ≤ 600) (hlt : l < bs.length) (u : Int × List Int) (T : List Int) (hTl : T.length ≤ 10000000) (s : Int × List Int)
  (hs : ∃ m c : Nat, s.1 = m ∧ m + c = l + 1 ∧ s.2 ++ passF bs u.1 m c = T) :
  ∃ f, loopM (m_gleeref2_OrderOf_l4 bs (l : Int) u) s = some f ∧ ∃ n, f = .brk (n, T) := by
 refine loopM_post (m_gleeref2_OrderOf_l4 bs (l : Int) u) (fun s => ∃ m c : Nat, s.1 = m ∧ m + c = l + 1 ∧ s.2 ++ passF bs u.1 m c = T) (fun s => l + 1 - s.1.toNat) _ ?_ s hs
 rintro ⟨n, acc⟩ ⟨m, c, rfl, hmc, hT⟩
 simp only at hT
 have hal : acc.length ≤ T.length := by rw [← hT, List.length_append]; omega
 have hw : w64 ((m : Int) + 1) = ((m + 1 : Nat) : Int) := by rw [w64_id (by omega)]; omega
 unfold m_gleeref2_OrderOf_l4
 by_cases h1 : m ≤ l
 ·obtain ⟨c, rfl⟩ : ∃ c', c = c' + 1 := ⟨c - 1, by omega⟩
  refine .inl ?_
  rw [decide_eq_true (show (m : Int) ≤ (l : Int) by omega), ifB_true]
  show ∃ s', (((getI bs (m : Int)).bind fun e27 => ifB (e27.Ending == 0) (some (Sum.inl true)) ((getI bs (m : Int)).bind fun e28 => some (Sum.inl (e28.Ending == u.1)))) : Option (Bool ⊕ (Flow (Int × (List Int)) (Flow (Int × (List Int)) (Flow (Int × (List Int)) (List Int)))))).bind _ = _ ∧ _
  rw [sung_step bs u.1 m (by omega) (fun b => some (Sum.inl b))]
  unfold passF at hT
  cases hsu : sungB bs u.1 m with
  | true =>
   rw [hsu] at hT
   simp only [Option.bind_some, fin_inl, ifB_true, appM_of (xs := acc) (ys := [(m : Int)]) (by_ := 8) (by simp; omega) (by omega), hw]
   exact ⟨(((m + 1 : Nat) : Int), acc ++ [(m : Int)]), rfl, ⟨m + 1, c, rfl, by omega, by simpa using hT⟩, by simp only; omega⟩
  | false =>
   rw [hsu] at hT
   simp only [Option.bind_some, fin_inl, ifB_false, hw]
   exact ⟨(((m + 1 : Nat) : Int), acc), rfl, ⟨m + 1, c, rfl, by omega, by simpa using hT⟩, by simp only; omega⟩
 ·refine .inr (.inl ?_)
  rw [decide_eq_false (show ¬ (m : Int) ≤ (l : Int) by omega)]
  refine ⟨(m, acc), rfl, m, ?_⟩
  have : c = 0 := by omega
  subst this
  rw [← hT]
  unfold passF
  rw [List.append_nil]
theorem ref3 (bs : List TBar) (l : Nat) (y : TBar) (hy : bs[l]? = some y) (hcl : 0 ≤ y.Close ∧ y.Close ≤ 9) (hl : bs.length ≤ 600) (n : Nat) (hn : n ≤ l) (u : List Int) (T : List Int) (hTl : T.length ≤ 10000000) (s : Int × List Int)
  (hs : ∃ k : Nat, s.1 + k = y.Close + 1 ∧ 1 ≤ s.1 ∧ s.2 ++ passes bs n (l + 1 - n) k s.1 = T) :
  ∃ f, loopM (m_gleeref2_OrderOf_l3 bs (l : Int) ((n : Int), u)) s = some f ∧ ∃ p, f = .brk (p, T) := by
 have hlt : l < bs.length := (List.getElem?_eq_some_iff.1 hy).1
 refine loopM_post (m_gleeref2_OrderOf_l3 bs (l : Int) ((n : Int), u)) (fun s => ∃ k : Nat, s.1 + k = y.Close + 1 ∧ 1 ≤ s.1 ∧ s.2 ++ passes bs n (l + 1 - n) k s.1 = T) (fun s => (y.Close + 1 - s.1).toNat) _ ?_ s hs
 rintro ⟨p, acc⟩ ⟨k, hk, hp, hT⟩
 simp only at hk hp hT
 unfold m_gleeref2_OrderOf_l3
 rw [getI_of rfl hy, Option.bind_some]
 by_cases h1 : p ≤ y.Close
 ·obtain ⟨k, rfl⟩ : ∃ k', k = k' + 1 := ⟨k - 1, by omega⟩
  have hT' : (acc ++ passF bs p n (l + 1 - n)) ++ passes bs n (l + 1 - n) k (p + 1) = T := by
   rw [← hT, List.append_assoc]; rfl
  obtain ⟨f, hf, q, rfl⟩ := ref4 bs l hl hlt (p, acc) (acc ++ passF bs p n (l + 1 - n)) (by rw [← hT', List.length_append] at hTl; omega) ((n : Int), acc) ⟨n, l + 1 - n, rfl, by omega, rfl⟩
  refine .inl ⟨(p + 1, acc ++ passF bs p n (l + 1 - n)), ?_, ⟨k, by simp only; omega, by simp only; omega, hT'⟩, by simp only; omega⟩
  simp only
  rw [decide_eq_true h1, ifB_true, hf, Option.bind_some, fin_brk, w64_id (by omega)]
 ·refine .inr (.inl ⟨(p, acc), ?_, p, ?_⟩)
  ·simp only
   rw [decide_eq_false h1, ifB_false]
  ·have : k = 0 := by omega
   subst this
   rw [← hT]
   unfold passes
   rw [List.append_nil]
theorem ref2 (bs : List TBar) (hl : bs.length ≤ 600) (l : Nat) (y : TBar) (hy : bs[l]? = some y) (hcl : y.Close ≠ 0) (n : Nat) (hn : n ≤ l) (hz : ∀ j, n ≤ j → j < l → ∃ z, bs[j]? = some z ∧ z.Close = 0) :
  loopM (m_gleeref2_OrderOf_l2 bs) (n : Int) = some (.brk (l : Int)) := by
 have hlt : l < bs.length := (List.getElem?_eq_some_iff.1 hy).1
 obtain ⟨f, hf, rfl⟩ := loopM_post (m_gleeref2_OrderOf_l2 bs) (fun s => ∃ m : Nat, s = m ∧ n ≤ m ∧ m ≤ l) (fun s => l - s.toNat) (fun f => f = .brk (l : Int)) (by
  rintro s ⟨m, rfl, h1, h2⟩
  unfold m_gleeref2_OrderOf_l2
  by_cases h3 : m = l
  ·subst h3
   refine .inr (.inl ⟨(m : Int), ?_, rfl⟩)
   rw [getI_of rfl hy, Option.bind_some]
   have : (y.Close == 0) = false := by simpa using hcl
   rw [this, ifB_false]
  ·obtain ⟨z, hz1, hz2⟩ := hz m h1 (by omega)
   refine .inl ⟨((m + 1 : Nat) : Int), ?_, ⟨m + 1, rfl, by omega, by omega⟩, by omega⟩
   rw [getI_of rfl hz1, Option.bind_some]
   have : (z.Close == 0) = true := by simpa using hz2
   rw [this, ifB_true, w64_id (by omega)]
   rfl) (n : Int) ⟨n, rfl, Nat.le_refl _, hn⟩
 exact hf
end Go.G
namespace Go.G
open Go Go.J
theorem gsB_cons (o : Option Nat) (i : Nat) (x : TBar) (t : List TBar) : gsB o i (x :: t) = match (bif x.Open then some i else o) with
  | none => (i, i + 1, 1) :: gsB none (i + 1) t
  | some s => if x.Close > 0 then (s, i + 1, x.Close) :: gsB none (i + 1) t else gsB (some s) (i + 1) t := rfl
theorem scanB (bs : List TBar) : ∀ (t : List TBar) (i : Nat) (s r : SB), bs.drop i = t → goB s t = .inr r → r.1 = false → (s.1 = true ∨ ∃ x t', t = x :: t' ∧ x.Open = true) →
  ∃ l y s', i ≤ l ∧ bs[l]? = some y ∧ (∀ j, i ≤ j → j < l → ∃ z, bs[j]? = some z ∧ z.Close = 0) ∧ y.Close ≠ 0 ∧ 2 ≤ y.Close ∧ y.Close ≤ 9 ∧ s'.1 = false ∧ goB s' (bs.drop (l + 1)) = .inr r ∧
   ∀ o a, (bif (match t with | [] => false | x :: _ => x.Open) then some i else o) = some a → gsB o i t = (a, l + 1, y.Close) :: gsB none (l + 1) (bs.drop (l + 1))
 | [], i, s, r, _, h, hr, ho => by
  cases h
  rcases ho with ho | ⟨x, t', h, _⟩
  ·rw [ho] at hr; cases hr
  ·cases h
 | x :: t, i, s, r, hd, h, hr, ho => by
  obtain ⟨hx, hd'⟩ := drop_cons hd
  obtain ⟨s', h1, h2⟩ := goB_cons h
  obtain ⟨hb, hop, hc⟩ := stB_inr h1
  have hnb := notbad x hb
  have ho' : x.Open = true ∨ s.1 = true := by
   rcases ho with ho | ⟨x', t', h, h'⟩
   ·exact .inr ho
   ·cases h; exact .inl h'
  rcases hc with ⟨c1, c2, _⟩ | ⟨c1, c2, rfl⟩ | ⟨c1, c2, rfl⟩
  ·rcases ho' with ho' | ho'
   ·rw [c1] at ho'; cases ho'
   ·rw [c2] at ho'; cases ho'
  ·obtain ⟨l, y, s', k1, k2, k3, k4, k5, k6, k7, k8, k9⟩ := scanB bs t (i + 1) _ r hd' h2 hr (.inl rfl)
   refine ⟨l, y, s', by omega, k2, fun j hj hj' => ?_, k4, k5, k6, k7, k8, fun o a ha => ?_⟩
   ·by_cases hji : j = i
    ·subst hji; exact ⟨x, hx, c2⟩
    ·exact k3 j (by omega) hj'
   ·rw [gsB_cons]
    simp only at ha
    rw [ha]
    have hc0 : ¬ (x.Close > 0) := by omega
    simp only [hc0, if_false]
    refine k9 (some a) a ?_
    cases t with
    | nil => rfl
    | cons x' t' =>
     obtain ⟨s'', q1, _⟩ := goB_cons h2
     have := (stB_inr q1).2.1
     cases hxo : x'.Open
     ·simp [hxo]
     ·exact (Bool.noConfusion (this hxo))
  ·have hcl := hnb.2.2.2.1 c2
   refine ⟨i, x, _, Nat.le_refl _, hx, fun j hj hj' => by omega, c2, hcl.1, hcl.2, rfl, by rw [hd']; exact h2, fun o a ha => ?_⟩
   rw [gsB_cons]
   simp only at ha
   rw [ha, hd']
   have hc0 : x.Close > 0 := by omega
   simp only [hc0, if_true]
theorem OrderOf_spec (bs : List TBar) (hl : bs.length ≤ 600) (r : SB) (h : goB (false, 0, 0, false) bs = .inr r) (hr : r.1 = false) :
  m_gleeref2_OrderOf bs = some (expand bs (gsB none 0 bs)) := by
 have hall := goB_all bs _ r h
 have hTl : (expand bs (gsB none 0 bs)).length ≤ 10000000 := by
  have h1 := expand_len bs bs.length (gsB none 0 bs) (fun g hg => by have := gsB_mem bs 0 none hall (by simp) g hg; omega)
  have h2 := gsB_len bs 0 none
  have h3 : (gsB none 0 bs).length * (9 * bs.length) ≤ 600 * (9 * 600) := Nat.mul_le_mul (by omega) (by omega)
  omega
 generalize hT : expand bs (gsB none 0 bs) = T at hTl
 obtain ⟨f, hf, n, rfl⟩ := loopM_post (m_gleeref2_OrderOf_l1 bs) (fun u => ∃ (m : Nat) (s : SB), u.1 = m ∧ m ≤ bs.length ∧ goB s (bs.drop m) = .inr r ∧ s.1 = false ∧ u.2 ++ expand bs (gsB none m (bs.drop m)) = T) (fun u => bs.length - u.1.toNat) (fun f => ∃ n, f = .brk (n, T)) (by
  rintro ⟨n, acc⟩ ⟨m, s, rfl, hm, hg, hs, hT⟩
  simp only at hT
  have hal : acc.length ≤ T.length := by rw [← hT, List.length_append]; omega
  unfold m_gleeref2_OrderOf_l1
  by_cases h1 : m < bs.length
  ·refine .inl ?_
   rw [decide_eq_true (show (m : Int) < (bs.length : Int) by omega), ifB_true]
   have hx : bs[m]? = some bs[m] := List.getElem?_eq_getElem h1
   have hd : bs.drop m = bs[m] :: bs.drop (m + 1) := by rw [List.drop_eq_getElem_cons h1]
   have hw : w64 ((m : Int) + 1) = ((m + 1 : Nat) : Int) := by rw [w64_id (by omega)]; omega
   generalize bs[m] = x at hx hd
   show ∃ s', (getI bs (m : Int)).bind _ = _ ∧ _
   rw [getI_of rfl hx, Option.bind_some]
   have hg0 := hg
   have hT0 := hT
   rw [hd] at hg hT
   obtain ⟨s', q1, q2⟩ := goB_cons hg
   obtain ⟨hb, hop, hc⟩ := stB_inr q1
   cases hxo : x.Open with
   | false =>
    rcases hc with ⟨c1, c2, c3, c4, rfl⟩ | ⟨c1, _⟩ | ⟨c1, _⟩
    ·have hsu : passes bs m (m + 1 - m) (1 : Int).toNat 1 = [(m : Int)] := by
      have e1 : m + 1 - m = 0 + 1 := by omega
      have e2 : sungB bs 1 m = true := by unfold sungB; rw [hx]; simp [c4]
      rw [e1]
      show passF bs 1 m (0 + 1) ++ [] = _
      unfold passF
      rw [e2]
      rfl
     unfold gsB at hT
     simp only [hxo, cond_false] at hT
     unfold expand at hT
     simp only [hsu] at hT
     refine ⟨(((m + 1 : Nat) : Int), acc ++ [(m : Int)]), ?_, ⟨m + 1, s', rfl, by omega, q2, hs, by simpa using hT⟩, by simp only; omega⟩
     simp only [Bool.not_false, ifB_true, appM_of (xs := acc) (ys := [(m : Int)]) (by_ := 8) (by simp; omega) (by omega), Option.bind_some, hw]
    ·rcases c1 with c1 | c1
     ·rw [hxo] at c1; cases c1
     ·rw [hs] at c1; cases c1
    ·rcases c1 with c1 | c1
     ·rw [hxo] at c1; cases c1
     ·rw [hs] at c1; cases c1
   | true =>
    obtain ⟨l, y, s', k1, k2, k3, k4, k5, k6, k7, k8, k9⟩ := scanB bs (x :: bs.drop (m + 1)) m s r hd (hd ▸ hg0) hr (.inr ⟨x, _, rfl, hxo⟩)
    have hll : l < bs.length := (List.getElem?_eq_some_iff.1 k2).1
    have k9 := k9 none m (by simp [hxo])
    rw [k9] at hT
    have hT' : (acc ++ passes bs m (l + 1 - m) y.Close.toNat 1) ++ expand bs (gsB none (l + 1) (bs.drop (l + 1))) = T := by
     rw [← hT, List.append_assoc]; rfl
    obtain ⟨f, hf, p, rfl⟩ := ref3 bs l y k2 ⟨by omega, k6⟩ hl m k1 acc (acc ++ passes bs m (l + 1 - m) y.Close.toNat 1) (by rw [← hT', List.length_append] at hTl; omega) (1, acc) ⟨y.Close.toNat, by simp only; omega, by simp, rfl⟩
    refine ⟨(((l + 1 : Nat) : Int), acc ++ passes bs m (l + 1 - m) y.Close.toNat 1), ?_, ⟨l + 1, s', rfl, by omega, k8, k7, hT'⟩, by simp only; omega⟩
    simp only [Bool.not_true, ifB_false]
    rw [ref2 bs hl l y k2 k4 m k1 k3, Option.bind_some, fin_brk, hf, Option.bind_some, fin_brk, w64_id (by omega)]
    rfl
  ·refine .inr (.inl ?_)
   rw [decide_eq_false (show ¬ (m : Int) < (bs.length : Int) by omega)]
   refine ⟨(m, acc), rfl, m, ?_⟩
   rw [← hT, List.drop_of_length_le (by omega)]
   unfold gsB expand
   rw [List.append_nil]) (0, []) ⟨0, (false, 0, 0, false), rfl, by omega, by simpa using h, rfl, by simpa using hT⟩
 unfold m_gleeref2_OrderOf
 rw [hf, Option.bind_some, fin_brk]
def cB (bs : List TBar) : Int :=
 ifB ((bs.length : Int) == 0) 8 (ifB (decide ((bs.length : Int) > 300)) 2 (match goB (false, 0, 0, false) bs with
  | .inl k => k
  | .inr r => ifB (r.1 || r.2.2.2) 16 (ifB (decide ((expand bs (gsB none 0 bs)).length > 2000)) 2 0)))
theorem grp_ok (bs : List TBar) (r : SB) (h : goB (false, 0, 0, false) bs = .inr r) : ∀ g ∈ gsB none 0 bs, g.1 ≤ g.2.1 ∧ g.2.1 ≤ bs.length ∧ 1 ≤ g.2.2 ∧ g.2.2 ≤ 9 := fun g hg => by
 have := gsB_mem bs 0 none (goB_all bs _ r h) (by simp) g hg; omega
theorem CheckBars_spec (bs : List TBar) (hl : bs.length ≤ 600) : m_piece_CheckBars bs = some (cB bs) := by
 unfold m_piece_CheckBars cB
 rw [rulesFault_spec bs hl]
 cases ((bs.length : Int) == 0) with
 | true => rfl
 | false =>
  cases decide ((bs.length : Int) > 300) with
  | true => rfl
  | false =>
   simp only [ifB_false, Option.bind_some]
   cases h : goB (false, 0, 0, false) bs with
   | inl k =>
    have hk : (k != 0) = true := by simpa using goB_inl _ _ _ h
    simp only [hk, ifB_true]
   | inr r =>
    have hw := wrong_spec bs bs 0 none (false, 0, 0, false) r rfl h rfl (by simp)
    simp only [Bool.false_or] at hw
    show (m_piece_repeats bs).bind _ = _
    rw [repeats_spec bs hl (goB_all bs _ r h), Option.bind_some]
    simp only [hw.2]
    cases (gsB none 0 bs).any (badG bs) with
    | true => simp
    | false =>
     simp only [cond_false, Bool.or_false, order_spec bs hl _ (grp_ok bs r h), Option.bind_some]
     have he : (endB none 0 bs).isNone = !r.1 := by rw [← hw.1]; cases endB none 0 bs <;> rfl
     rw [he]
     cases r.1 with
     | true => rfl
     | false =>
      simp only [Bool.not_false, Bool.not_true, ifB_false]
      by_cases hlen : (expand bs (gsB none 0 bs)).length > 2000
      ·rw [decide_eq_true hlen, decide_eq_true (by rw [List.length_take]; omega)]; rfl
      ·rw [decide_eq_false hlen, decide_eq_false (by rw [List.length_take]; omega)]; rfl
theorem BarsFault_spec (bs : List TBar) (hl : bs.length ≤ 600) : m_gleeref2_BarsFault bs = some (cB bs) := by
 unfold m_gleeref2_BarsFault cB
 rw [barRef bs 0 (false, 0, 0, false)]
 cases ((bs.length : Int) == 0) with
 | true => rfl
 | false =>
  cases decide ((bs.length : Int) > 300) with
  | true => rfl
  | false =>
   simp only [ifB_false, Option.bind_some]
   cases h : goB (false, 0, 0, false) bs with
   | inl k => rfl
   | inr r =>
    have ho := OrderOf_spec bs hl r h
    revert ho
    obtain ⟨o, e, m, w⟩ := r
    cases o with
    | true => intro _; rfl
    | false =>
     intro ho
     have ho := ho rfl
     cases w with
     | true => rfl
     | false =>
      simp only [fin_brk, ifB_false, Option.bind_some, fin_inl, ho, Bool.or_false]
      by_cases hlen : (expand bs (gsB none 0 bs)).length > 2000
      ·rw [decide_eq_true hlen, decide_eq_true (by omega)]; rfl
      ·rw [decide_eq_false hlen, decide_eq_false (by omega)]; rfl
theorem cB_zero {bs : List TBar} (h : cB bs = 0) : bs.length ≤ 300 ∧ ∃ r, goB (false, 0, 0, false) bs = .inr r ∧ r.1 = false ∧ r.2.2.2 = false ∧ (expand bs (gsB none 0 bs)).length ≤ 2000 := by
 unfold cB at h
 by_cases h0 : (bs.length : Int) = 0
 ·rw [h0] at h; cases h
 ·have hb : ((bs.length : Int) == 0) = false := by simpa using h0
  rw [hb, ifB_false] at h
  by_cases h1 : (bs.length : Int) > 300
  ·rw [decide_eq_true h1] at h; cases h
  ·rw [decide_eq_false h1, ifB_false] at h
   refine ⟨by omega, ?_⟩
   cases hg : goB (false, 0, 0, false) bs with
   | inl k => rw [hg] at h; exact (goB_inl _ _ _ hg h).elim
   | inr r =>
    rw [hg] at h
    refine ⟨r, rfl, ?_⟩
    simp only at h
    cases h2 : r.1 with
    | true => rw [h2] at h; cases h
    | false =>
     cases h3 : r.2.2.2 with
     | true => rw [h2, h3] at h; cases h
     | false =>
      rw [h2, h3] at h
      refine ⟨rfl, rfl, ?_⟩
      by_cases hlen : (expand bs (gsB none 0 bs)).length > 2000
      ·rw [decide_eq_true hlen] at h; cases h
      ·omega
end Go.G
namespace Go.G
open Go Go.J
def lowF (a b : Nat) : TFraction := ⟨(a : Int) / (Nat.gcd a b : Int), (b : Int) / (Nat.gcd a b : Int)⟩
theorem gcdLoop2 (a b : Nat) : loopM m_gleeref2_divisor_l1 ((a : Int), (b : Int)) = some (.brk ((Nat.gcd a b : Int), 0)) := by
 obtain ⟨f, hf, rfl⟩ := loopM_post m_gleeref2_divisor_l1 (fun s => ∃ x y : Nat, s = ((x : Int), (y : Int)) ∧ Nat.gcd x y = Nat.gcd a b) (fun s => s.2.toNat) (fun f => f = .brk ((Nat.gcd a b : Int), 0)) (by
  rintro s ⟨x, y, rfl, hg⟩
  unfold m_gleeref2_divisor_l1
  by_cases hy : y = 0
  ·subst hy
   rw [Nat.gcd_zero_right] at hg
   exact .inr (.inl ⟨_, rfl, by rw [hg]; rfl⟩)
  ·have h1 : ((y : Int) != 0) = true := by simpa using hy
   have h2 : ((x : Int)).tmod (y : Int) = ((x % y : Nat) : Int) := rfl
   refine .inl ⟨((y : Int), ((x % y : Nat) : Int)), ?_, ⟨y, x % y, rfl, ?_⟩, ?_⟩
   ·simp only
    rw [h1, ifB_true, remM_of (by omega), Option.bind_some, h2]
   ·rw [← hg, Nat.gcd_comm x y, Nat.gcd_comm y (x % y), ← Nat.gcd_rec]
   ·have := Nat.mod_lt x (Nat.pos_of_ne_zero hy)
    simp only; omega) _ ⟨a, b, rfl, rfl⟩
 exact hf
theorem quo_gcd (a b c : Nat) (hb : b ≠ 0) (_ : b ≤ 1000000000000) (hc : c ≤ 1000000000000) : quoM (c : Int) (Nat.gcd a b : Int) = some ((c : Int) / (Nat.gcd a b : Int)) := by
 have hg : 0 < Nat.gcd a b := Nat.gcd_pos_of_pos_right a (Nat.pos_of_ne_zero hb)
 rw [quoM_of (by omega)]
 have e : ((c : Int)).tdiv (Nat.gcd a b : Int) = ((c / Nat.gcd a b : Nat) : Int) := rfl
 have := Nat.div_le_self c (Nat.gcd a b)
 have h0 : (0 : Int) ≤ ((c / Nat.gcd a b : Nat) : Int) := Int.natCast_nonneg _
 rw [e, w64_id (by omega)]
 rfl
theorem refLowest_spec (a b : Nat) (hb : b ≠ 0) (hb' : b ≤ 1000000000000) (ha : a ≤ 1000000000000) : m_gleeref2_Lowest (a : Int) (b : Int) = some (lowF a b) := by
 have hg : 0 < Nat.gcd a b := Nat.gcd_pos_of_pos_right a (Nat.pos_of_ne_zero hb)
 have hg' : Nat.gcd a b ≤ b := Nat.gcd_le_right a (Nat.pos_of_ne_zero hb)
 have hd : m_gleeref2_divisor (a : Int) (b : Int) = some (Nat.gcd a b : Int) := by
  unfold m_gleeref2_divisor
  rw [gcdLoop2, Option.bind_some, fin_brk]
  simp only
  rw [w64_id (by omega)]
  congr 1
  omega
 unfold m_gleeref2_Lowest
 rw [hd, Option.bind_some, quo_gcd a b a hb hb' ha, Option.bind_some, quo_gcd a b b hb hb' hb']
 rfl
end Go.G
