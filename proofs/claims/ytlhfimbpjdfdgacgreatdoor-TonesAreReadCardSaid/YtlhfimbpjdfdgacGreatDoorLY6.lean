/- Plain laws of the models; no condition beyond what each theorem says. -/
import Derived.Test.YtlhfimbpjdfdgacGreatDoorLKr
import Derived.Test.YtlhfimbpjdfdgacGreatDoorLM
namespace Go.G
open Go Go.J
set_option linter.unusedSimpArgs false
def inR (n lo hi : Int) : Bool := decide (lo ≤ n ∧ n ≤ hi)
theorem Out_R (n lo hi : Int) : m_kit_Outside n lo hi = some (!inR n lo hi) := Outside_spec n lo hi
def isAt (n : Int) : Bool := inR n 0 345686399999
theorem IsMoment_R (n : Int) : m_kit_IsMoment n = some (isAt n) := by unfold m_kit_IsMoment; rw [Out_R]; simp [isAt]
def isE (s : ByteArray) : Bool := s.toList == ByteArray.empty.toList
def useWho (k : Int) : Bool := k == 1 || k == 2 || k == 3 || k == 5
def useMot (k : Int) : Bool := k == 4 || k == 5 || k == 6
def useCts (k : Int) : Bool := k == 1 || k == 3
theorem usesOf_spec (k : Int) : m_club_usesOf k = some ⟨useWho k, useMot k, useCts k, k == 5, k == 7⟩ := by
 by_cases h1 : k = 1
 ·subst h1; rfl
 by_cases h2 : k = 2
 ·subst h2; rfl
 by_cases h3 : k = 3
 ·subst h3; rfl
 by_cases h4 : k = 4
 ·subst h4; rfl
 by_cases h5 : k = 5
 ·subst h5; rfl
 by_cases h6 : k = 6
 ·subst h6; rfl
 have e1 : (k == 1) = false := by simpa using h1
 have e2 : (k == 2) = false := by simpa using h2
 have e3 : (k == 3) = false := by simpa using h3
 have e4 : (k == 4) = false := by simpa using h4
 have e5 : (k == 5) = false := by simpa using h5
 have e6 : (k == 6) = false := by simpa using h6
 unfold m_club_usesOf useWho useMot useCts
 simp only [e1, e2, e3, e4, e5, e6, ifB_false, Bool.or_false]
def actF (x : TAct) : Int :=
 bif !isKey x.Site then 5 else bif !inR x.No 1 1000000 || !isAt x.At then 1 else bif !inR x.Kind 1 7 then 4 else
 bif (useWho x.Kind && !isKey x.Who) || (useMot x.Kind && !isKey x.Motion) || ((x.Kind == 7) && !isKey x.Of) then 5 else
 bif (useCts x.Kind && !inR x.Cents (bif x.Kind == 3 then 1 else 0) 1000000000) || ((x.Kind == 7) && !inR x.Other 1 1000000) then 1 else
 bif (!useWho x.Kind && !isE x.Who) || (!useMot x.Kind && !isE x.Motion) || (!useCts x.Kind && (x.Cents != 0)) || (!(x.Kind == 5) && x.Yes) || (!(x.Kind == 7) && (!isE x.Of || (x.Other != 0))) then 3 else 0
theorem formed_spec (x : TAct) : m_club_formed x = some (actF x) := by
 unfold m_club_formed actF
 simp only [isKey_prog, Out_R, IsMoment_R, usesOf_spec, Option.bind_some]
 have he : ∀ s : ByteArray, (s.toList == ByteArray.empty.toList) = isE s := fun _ => rfl
 simp only [he]
 generalize isKey x.Site = b1, inR x.No 1 1000000 = b2, isAt x.At = b3, inR x.Kind 1 7 = b4
 cases b1
 ·rfl
 cases b2
 ·rfl
 cases b3
 ·rfl
 cases b4
 ·rfl
 simp only [Bool.not_true, ifB_false, Option.bind_some, fin_inl, cond_false, Bool.or_false]
 rw [show (ifB (x.Kind == 3) (some (.inl 1)) (some (.inl 0)) : Option (Int ⊕ Int)) = some (.inl (bif x.Kind == 3 then 1 else 0)) by cases (x.Kind == 3) <;> rfl]
 simp only [Option.bind_some, fin_inl]
 generalize useWho x.Kind = u1, useMot x.Kind = u2, useCts x.Kind = u3, (x.Kind == 5) = u4, (x.Kind == 7) = u5, inR x.Cents (bif x.Kind == 3 then 1 else 0) 1000000000 = c1, inR x.Other 1 1000000 = c2, isKey x.Who = k1, isKey x.Motion = k2, isKey x.Of = k3, isE x.Who = e1, isE x.Motion = e2, isE x.Of = e3, (x.Cents != 0) = z1, (x.Other != 0) = z2, x.Yes = y
 have s1 : ((ifB u1 ((some k1).bind fun y17 => ifB (!y17) (some (.inl true)) (ifB u2 ((some k2).bind fun y18 => ifB (!y18) (some (.inl true)) (ifB u5 ((some k3).bind fun y19 => some (.inl (!y19))) (some (.inl false)))) (ifB u5 ((some k3).bind fun y20 => some (.inl (!y20))) (some (.inl false))))) (ifB u2 ((some k2).bind fun y21 => ifB (!y21) (some (.inl true)) (ifB u5 ((some k3).bind fun y22 => some (.inl (!y22))) (some (.inl false)))) (ifB u5 ((some k3).bind fun y23 => some (.inl (!y23))) (some (.inl false))))) : Option (Bool ⊕ Int)) = some (.inl ((u1 && !k1) || (u2 && !k2) || (u5 && !k3))) := by
  cases u1 <;> cases u2 <;> cases u5 <;> cases k1 <;> cases k2 <;> cases k3 <;> rfl
 simp only [Option.bind_some] at s1
 rw [s1, Option.bind_some, fin_inl]
 generalize ((u1 && !k1) || (u2 && !k2) || (u5 && !k3)) = w1
 cases w1
 case true => rfl
 simp only [ifB_false, cond_false]
 have s2 : ((ifB u3 (ifB (!c1) (some (.inl true)) (ifB u5 (some (.inl (!c2))) (some (.inl false)))) (ifB u5 (some (.inl (!c2))) (some (.inl false)))) : Option (Bool ⊕ Int)) = some (.inl ((u3 && !c1) || (u5 && !c2))) := by
  cases u3 <;> cases u5 <;> cases c1 <;> cases c2 <;> rfl
 rw [s2, Option.bind_some, fin_inl]
 generalize ((u3 && !c1) || (u5 && !c2)) = w2
 cases w2
 case true => rfl
 simp only [ifB_false, cond_false]
 cases u1 <;> cases u2 <;> cases u3 <;> cases u4 <;> cases u5 <;> cases e1 <;> cases e2 <;> cases e3 <;> cases z1 <;> cases z2 <;> cases y <;> rfl
end Go.G
namespace Go.G
open Go Go.J
set_option linter.unusedSimpArgs false
end Go.G
namespace Go.G
open Go Go.J
set_option linter.unusedSimpArgs false
def cI (a b : Int) : Int := bif decide (a < b) then -1 else bif decide (a > b) then 1 else 0
theorem Compare_int (a b : Int) : m_cmp_Compare_int a b = some (cI a b) := by
 unfold m_cmp_Compare_int m_cmp_isNaN_int cI
 have : ∀ n : Int, (n != n) = false := fun n => by simp
 simp only [this, Option.bind_some, ifB_false]
 cases decide (a < b) <;> cases decide (a > b) <;> rfl
def cmpS (a b : ByteArray) : Int := Lib.compareBytes (bytesOf a) (bytesOf b)
def cmpA (a b : TAct) : Int := bif cI a.At b.At != 0 then cI a.At b.At else bif cmpS a.Site b.Site != 0 then cmpS a.Site b.Site else cI a.No b.No
theorem compare_spec (a b : TAct) : m_club_compare a b = some (cmpA a b) := by
 unfold m_club_compare
 rw [Compare_int, Option.bind_some, show m_strings_Compare a.Site b.Site = some (cmpS a.Site b.Site) from rfl, Option.bind_some, Compare_int, Option.bind_some]
 unfold m_cmp_Or_int cmpA
 rw [rangeM_cons]
 unfold m_cmp_Or_int_l1
 cases h1 : (cI a.At b.At != 0)
 ·rw [ifB_false, Option.bind_some, run_nxt, rangeM_cons]
  cases h2 : (cmpS a.Site b.Site != 0)
  ·rw [ifB_false, Option.bind_some, run_nxt, rangeM_cons]
   cases h3 : (cI a.No b.No != 0)
   ·have : cI a.No b.No = 0 := by simpa using h3
    simp [this]
   ·simp
  ·simp
 ·simp
def small (a : TAct) : Prop := -4000000000000000000 ≤ a.At ∧ a.At ≤ 4000000000000000000 ∧ -4000000000000000000 ≤ a.No ∧ a.No ≤ 4000000000000000000
def f1 : Option TAct → List TAct → Int
 | _, [] => 0
 | p, x :: t => bif actF x != 0 then actF x else bif (match p with | none => false | some y => decide (cmpA y x ≥ 0)) then 7 else f1 (some x) t
def own (x : TAct) : Tclub_own := ⟨x.Site, x.No⟩
def f2 : List Tclub_own → List TAct → Int
 | _, [] => 0
 | s, x :: t => bif decide (own x ∈ s) then 6 else f2 (s ++ [own x]) t
def actsF (l : List TAct) : Int := bif decide (l.length > 2000) then 2 else bif f1 none l != 0 then f1 none l else f2 [] l
def prevA (l : List TAct) (i : Nat) : Option TAct := if i = 0 then none else l[i - 1]?
def out1 (p : Option TAct) (x : TAct) : Flow Unit Int := bif actF x != 0 then .ret (actF x) else bif (match p with | none => false | some y => decide (cmpA y x ≥ 0)) then .ret 7 else .nxt ()
theorem loop1 (l : List TAct) (step : Nat → TAct → Unit → Option (Flow Unit Int)) (h : ∀ (i : Nat) x, l[i]? = some x → (∀ y, prevA l i = some y → actF y = 0) → step i x () = some (out1 (prevA l i) x)) :
  ∀ (t : List TAct) (i : Nat), l.drop i = t → (∀ y, prevA l i = some y → actF y = 0) → rangeM step i t () = some (bif f1 (prevA l i) t == 0 then .brk () else .ret (f1 (prevA l i) t)) := by
 intro t
 induction t with
 | nil => intro i _ _; rfl
 | cons x t ih =>
  intro i hd hp
  have hx : l[i]? = some x := by
   have : (l.drop i)[0]? = some x := by rw [hd]; rfl
   simpa using this
  have hd' : l.drop (i + 1) = t := by rw [← List.drop_drop, hd]; rfl
  have hp' : prevA l (i + 1) = some x := by unfold prevA; rw [if_neg (by omega)]; simpa using hx
  rw [rangeM_cons, h i x hx hp]
  unfold out1 f1
  cases h1 : (actF x != 0)
  ·have h0 : actF x = 0 := by simpa using h1
   cases h2 : (match prevA l i with | none => false | some y => decide (cmpA y x ≥ 0))
   ·simp only [cond_false, Option.bind_some, run_nxt]
    rw [ih (i + 1) hd' (fun y hy => by rw [hp'] at hy; cases hy; exact h0), hp']
   ·simp
  ·have h3 : (actF x == 0) = false := by simpa [bne] using h1
   simp [h3]
theorem prev_get {l : List TAct} {i : Nat} {x : TAct} (hx : l[i]? = some x) (h0 : i ≠ 0) (hl : l.length ≤ 2000) : ∃ y, prevA l i = some y ∧ getI l (w64 ((i : Int) - 1)) = some y := by
 have hi := (List.getElem?_eq_some_iff.1 hx).1
 have h1 : l[i - 1]? = some (l[i - 1]'(by omega)) := List.getElem?_eq_getElem (by omega)
 refine ⟨_, by unfold prevA; rw [if_neg h0]; exact h1, ?_⟩
 rw [w64_id (by omega)]
 exact getI_of (by omega) h1
theorem checkL1 (l : List TAct) (hl : l.length ≤ 2000) (i : Nat) (x : TAct) (hx : l[i]? = some x) : m_club_CheckActs_l1 l i x () = some (out1 (prevA l i) x) := by
 unfold m_club_CheckActs_l1 out1
 rw [formed_spec, Option.bind_some]
 cases h1 : (actF x != 0)
 ·rw [ifB_false, cond_false]
  by_cases h0 : i = 0
  ·subst h0; rfl
  ·obtain ⟨y, hy, hg⟩ := prev_get hx h0 hl
   rw [decide_eq_true (show (i : Int) > 0 by omega), ifB_true, hg, Option.bind_some, compare_spec, Option.bind_some, hy]
   simp only
   cases decide (cmpA y x ≥ 0) <;> rfl
 ·rfl
theorem checkL2 : ∀ (t : List TAct) (i : Nat) (s : List Tclub_own) (u : List (Tclub_own × Bool)), (∀ k, (lkM u k).getD false = decide (k ∈ s)) →
  ∃ u', rangeM m_club_CheckActs_l2 i t u = some (bif f2 s t == 0 then .brk u' else .ret (f2 s t)) := by
 intro t
 induction t with
 | nil => intro i s u _; exact ⟨u, rfl⟩
 | cons x t ih =>
  intro i s u hu
  rw [rangeM_cons]
  unfold m_club_CheckActs_l2 f2
  rw [show (Tclub_own.mk x.Site x.No) = own x from rfl, hu]
  cases h : decide (own x ∈ s)
  ·obtain ⟨u', h1⟩ := ih (i + 1) (s ++ [own x]) (putM u (own x) true) (fun k => by
    rw [lkM_put]
    by_cases hk : k = own x
    ·rw [if_pos hk]; simp [hk]
    ·rw [if_neg hk, hu]; simp [hk])
   exact ⟨u', by rw [ifB_false, Option.bind_some, run_nxt]; exact h1⟩
  ·exact ⟨u, by simp⟩
theorem fin_f (e : Int) (k : Option Int) : (Flow.fin (bif e == 0 then (.brk () : Flow Unit Int) else .ret e) fun _ => k) = bif e != 0 then some e else k := by
 cases h : (e == 0)
 ·simp [bne, h]
 ·simp [bne, h]
theorem CheckActs_spec (l : List TAct) : m_club_CheckActs l = some (actsF l) := by
 unfold m_club_CheckActs actsF
 by_cases hl : l.length > 2000
 ·rw [decide_eq_true hl, decide_eq_true (show (l.length : Int) > 2000 by omega)]; rfl
 ·rw [decide_eq_false hl, decide_eq_false (show ¬ (l.length : Int) > 2000 by omega), ifB_false, cond_false]
  rw [loop1 l _ (fun i x hx _ => checkL1 l (by omega) i x hx) l 0 rfl (fun y hy => by cases hy), Option.bind_some, fin_f]
  rw [show prevA l 0 = none from rfl]
  cases (f1 none l != 0)
  ·obtain ⟨u', h⟩ := checkL2 l 0 [] [] (fun k => by simp [lkM])
   rw [cond_false, cond_false, h]
   cases h2 : (f2 [] l == 0)
   ·rfl
   ·rw [cond_true, Option.bind_some, fin_brk, show f2 [] l = 0 by simpa using h2]
  ·rfl
structure ActsOK (l : List TAct) : Prop where
 len : l.length ≤ 2000
 ok : ∀ x ∈ l, actF x = 0
 ord : ∀ (i : Nat) x y, l[i]? = some x → l[i + 1]? = some y → cmpA x y < 0
 nd : (l.map own).Nodup
theorem f1_zero : ∀ (t : List TAct) (p : Option TAct), f1 p t = 0 ↔ (∀ x ∈ t, actF x = 0) ∧ (∀ y x, p = some y → t[0]? = some x → cmpA y x < 0) ∧ ∀ (i : Nat) x y, t[i]? = some x → t[i + 1]? = some y → cmpA x y < 0 := by
 intro t
 induction t with
 | nil => intro p; simp [f1]
 | cons z t ih =>
  intro p
  unfold f1
  by_cases h1 : actF z = 0
  ·rw [show (actF z != 0) = false by simpa using h1, cond_false]
   have key : ((match p with | none => false | some y => decide (cmpA y z ≥ 0)) = false) ↔ ∀ y, p = some y → cmpA y z < 0 := by
    cases p with
    | none => simp
    | some y => simp
   cases h2 : (match p with | none => false | some y => decide (cmpA y z ≥ 0))
   ·have h3 := key.1 h2
    rw [cond_false, ih]
    constructor
    ·rintro ⟨a, b, c⟩
     refine ⟨fun x hx => ?_, fun y x hy hx => ?_, fun i x y hx hy => ?_⟩
     ·rcases List.mem_cons.1 hx with rfl | hx
      ·exact h1
      ·exact a x hx
     ·simp at hx; subst hx; exact h3 y hy
     ·cases i with
      | zero => simp at hx; subst hx; exact b z y rfl (by simpa using hy)
      | succ i => exact c i x y (by simpa using hx) (by simpa using hy)
    ·rintro ⟨a, b, c⟩
     refine ⟨fun x hx => a x (List.mem_cons_of_mem _ hx), fun y x hy hx => ?_, fun i x y hx hy => c (i + 1) x y (by simpa using hx) (by simpa using hy)⟩
     cases hy
     exact c 0 z x rfl (by simpa using hx)
   ·rw [cond_true]
    constructor
    ·intro h; cases h
    ·rintro ⟨a, b, c⟩
     have := key.2 fun y hy => b y z hy rfl
     rw [h2] at this; cases this
  ·rw [show (actF z != 0) = true by simpa using h1, cond_true]
   exact ⟨fun h => (h1 h).elim, fun h => h.1 z (List.mem_cons_self ..)⟩
theorem f2_zero : ∀ (t : List TAct) (s : List Tclub_own), f2 s t = 0 ↔ (t.map own).Nodup ∧ ∀ x ∈ t, own x ∉ s := by
 intro t
 induction t with
 | nil => intro s; simp [f2]
 | cons z t ih =>
  intro s
  unfold f2
  by_cases h1 : own z ∈ s
  ·rw [decide_eq_true h1, cond_true]
   exact Iff.intro (fun h => by cases h) (fun h => (h.2 z (List.mem_cons_self ..) h1).elim)
  ·rw [decide_eq_false h1, cond_false, ih, List.map_cons, List.nodup_cons]
   constructor
   ·rintro ⟨a, b⟩
    refine ⟨⟨fun h => ?_, a⟩, fun x hx => ?_⟩
    ·obtain ⟨x, hx, e⟩ := List.mem_map.1 h
     exact b x hx (by rw [e]; simp)
    ·rcases List.mem_cons.1 hx with rfl | hx
     ·exact h1
     ·exact fun h => b x hx (List.mem_append_left _ h)
   ·rintro ⟨⟨a, a'⟩, b⟩
    refine ⟨a', fun x hx h => ?_⟩
    rcases List.mem_append.1 h with h | h
    ·exact b x (List.mem_cons_of_mem _ hx) h
    ·simp at h
     exact a (List.mem_map.2 ⟨x, hx, h⟩)
theorem actsF_zero (l : List TAct) : actsF l = 0 ↔ ActsOK l := by
 unfold actsF
 by_cases hl : l.length > 2000
 ·rw [decide_eq_true hl, cond_true]
  exact Iff.intro (fun h => by cases h) (fun h => by have := h.len; omega)
 ·rw [decide_eq_false hl, cond_false]
  by_cases h1 : f1 none l = 0
  ·rw [show (f1 none l != 0) = false by simpa using h1, cond_false, f2_zero]
   obtain ⟨a, -, c⟩ := (f1_zero l none).1 h1
   exact ⟨fun h => ⟨by omega, a, c, h.1⟩, fun h => ⟨h.nd, by simp⟩⟩
  ·rw [show (f1 none l != 0) = true by simpa using h1, cond_true]
   exact ⟨fun h => (h1 h).elim, fun h => (h1 ((f1_zero l none).2 ⟨h.ok, by simp, h.ord⟩)).elim⟩
end Go.G
namespace Go.G
open Go Go.J
set_option linter.unusedSimpArgs false
theorem ReverseI_spec (xs : List Int) (hl : xs.length ≤ 1000000) : m_slices_Reverse_int_int xs = some xs.reverse := by
 unfold m_slices_Reverse_int_int
 rw [w64_id (by omega)]
 obtain ⟨f, h1, h2⟩ := loopM_post m_slices_Reverse_int_int_l1
  (fun s => ∃ i : Nat, s.1 = i ∧ s.2.1 = (xs.length : Int) - 1 - i ∧ i ≤ xs.length ∧ s.2.2.length = xs.length ∧ ∀ k, k < xs.length → s.2.2[k]? = if k < i ∨ xs.length < k + i + 1 then xs[xs.length - 1 - k]? else xs[k]?)
  (fun s => xs.length - s.1.toNat) (fun f => ∃ a b, f = .brk (a, b, xs.reverse)) (by
   rintro ⟨i', j', ys⟩ ⟨i, rfl, rfl, hi, hys, hk⟩
   simp only at hys hk
   unfold m_slices_Reverse_int_int_l1
   by_cases hlt : (i : Int) < (xs.length : Int) - 1 - i
   ·left
    have hjn : (xs.length : Int) - 1 - i = ((xs.length - 1 - i : Nat) : Int) := by omega
    have g1 : getI ys (i : Int) = some (ys[i]'(by omega)) := getI_of (n := i) rfl (List.getElem?_eq_getElem (by omega))
    have g2 : getI ys ((xs.length - 1 - i : Nat) : Int) = some (ys[xs.length - 1 - i]'(by omega)) := getI_of rfl (List.getElem?_eq_getElem (by omega))
    have g3 : ∃ z, getI (ys.set i (ys[xs.length - 1 - i]'(by omega))) ((xs.length - 1 - i : Nat) : Int) = some z := ⟨_, getI_of rfl (List.getElem?_eq_getElem (by simp; omega))⟩
    obtain ⟨z, g3⟩ := g3
    have hlt' : (i : Int) < ((xs.length - 1 - i : Nat) : Int) := by omega
    simp only [hjn, decide_eq_true hlt', ifB_true, g1, g2, Option.bind_some, Int.toNat_natCast, g3]
    refine ⟨_, rfl, ⟨i + 1, by rw [w64_id (by omega)]; rfl, by simp only; rw [w64_id (by omega)]; omega, by omega, by simp [hys], ?_⟩, by simp only; rw [w64_id (by omega)]; omega⟩
    intro k hkl
    have a1 := hk i (by omega)
    have a2 := hk (xs.length - 1 - i) (by omega)
    rw [if_neg (by omega)] at a1 a2
    have b1 : ys[i]'(by omega) = xs[i]'(by omega) := by
     rw [List.getElem?_eq_getElem (by omega), List.getElem?_eq_getElem (by omega)] at a1
     exact Option.some.inj a1
    have b2 : ys[xs.length - 1 - i]'(by omega) = xs[xs.length - 1 - i]'(by omega) := by
     rw [List.getElem?_eq_getElem (by omega), List.getElem?_eq_getElem (by omega)] at a2
     exact Option.some.inj a2
    simp only [List.getElem?_set]
    by_cases c1 : xs.length - 1 - i = k
    ·subst c1
     rw [if_pos rfl, if_pos (by simp; omega), if_pos (by omega), b1]
     have : xs.length - 1 - (xs.length - 1 - i) = i := by omega
     rw [this, List.getElem?_eq_getElem (by omega)]
    ·rw [if_neg c1]
     by_cases c2 : i = k
     ·subst c2
      rw [if_pos rfl, if_pos (by omega), if_pos (by omega), b2, List.getElem?_eq_getElem (by omega)]
     ·rw [if_neg c2, hk k hkl]
      by_cases c3 : k < i ∨ xs.length < k + i + 1
      ·rw [if_pos c3, if_pos (by omega)]
      ·rw [if_neg c3, if_neg (by omega)]
   ·right; left
    simp only [decide_eq_false hlt, ifB_false]
    refine ⟨_, rfl, _, _, congrArg Flow.brk (Prod.ext rfl (Prod.ext rfl ?_))⟩
    apply List.ext_getElem?
    intro k
    by_cases hkl : k < xs.length
    ·rw [hk k hkl, List.getElem?_reverse hkl]
     split
     ·rfl
     ·have : xs.length - 1 - k = k := by omega
      rw [this]
    ·rw [List.getElem?_eq_none (by simp only; omega), List.getElem?_eq_none (by simp; omega)]) (0, (xs.length : Int) - 1, xs) ⟨0, rfl, by simp, Nat.zero_le _, rfl, fun k hk => by rw [if_neg (by omega)]⟩
 obtain ⟨a, b, rfl⟩ := h2
 rw [h1]; rfl
theorem rangeB_suf {α σ ρ : Type} (step : Nat → α → σ → Option (Flow σ ρ)) (xs : List α) (I : List α → σ → Prop)
  (h : ∀ pre x t s, xs = pre ++ x :: t → I t s → ∃ s', step pre.length x s = some (.nxt s') ∧ I (x :: t) s') (s : σ) (h0 : I [] s) : ∃ s', rangeB step xs s = some (.brk s') ∧ I xs s' := by
 obtain ⟨s', h1, h2⟩ := rangeM_invx (fun j x s => step (xs.length - 1 - j) x s) xs.reverse (fun j s => I (xs.drop (xs.length - j)) s) (by
  intro j x s hx hI
  have hj : j < xs.length := by simpa using (List.getElem?_eq_some_iff.1 hx).1
  have e1 : xs[xs.length - 1 - j]? = some x := by rw [← hx, List.getElem?_reverse hj]
  have e2 : xs = xs.take (xs.length - 1 - j) ++ x :: xs.drop (xs.length - j) := by
   have := List.take_append_drop (xs.length - 1 - j) xs
   conv => lhs; rw [← this]
   congr 1
   obtain ⟨hk, e⟩ := List.getElem?_eq_some_iff.1 e1
   rw [List.drop_eq_getElem_cons hk, e, show xs.length - 1 - j + 1 = xs.length - j by omega]
  have e3 : (xs.take (xs.length - 1 - j)).length = xs.length - 1 - j := by simp; omega
  obtain ⟨s', g1, g2⟩ := h _ x _ s e2 hI
  refine ⟨s', by rw [e3] at g1; exact g1, ?_⟩
  have e4 : xs.drop (xs.length - (j + 1)) = x :: xs.drop (xs.length - j) := by
   obtain ⟨hk, e⟩ := List.getElem?_eq_some_iff.1 e1
   rw [show xs.length - (j + 1) = xs.length - 1 - j by omega, List.drop_eq_getElem_cons hk, e, show xs.length - 1 - j + 1 = xs.length - j by omega]
  rw [e4]; exact g2) s (by simpa using h0)
 exact ⟨s', h1, by simpa using h2⟩
def und (at_ : Int) : List TAct → Tclub_own → Bool
 | [], _ => false
 | x :: t, k => und at_ t k || (decide (x.At ≤ at_) && !und at_ t (own x) && (x.Kind == 7) && decide (k = ⟨x.Of, x.Other⟩))
def cnt (at_ : Int) (x : TAct) (t : List TAct) : Bool := decide (x.At ≤ at_) && !und at_ t (own x)
def cntIx (at_ : Int) : Nat → List TAct → List Int
 | _, [] => []
 | i, x :: t => (bif cnt at_ x t then [(i : Int)] else []) ++ cntIx at_ (i + 1) t
theorem und_cons (at_ : Int) (x : TAct) (t : List TAct) (k : Tclub_own) : und at_ (x :: t) k = (und at_ t k || (cnt at_ x t && ((x.Kind == 7) && decide (k = ⟨x.Of, x.Other⟩)))) := by
 rw [und]; unfold cnt; rw [Bool.and_assoc (decide (x.At ≤ at_) && !und at_ t (own x))]
theorem cntIx_len (at_ : Int) : ∀ (t : List TAct) (i : Nat), (cntIx at_ i t).length ≤ t.length := by
 intro t
 induction t with
 | nil => intro i; simp [cntIx]
 | cons x t ih =>
  intro i
  have := ih (i + 1)
  unfold cntIx
  cases cnt at_ x t <;> simp <;> omega
theorem cntIx_mem (at_ : Int) : ∀ (t : List TAct) (i : Nat) (z : Int), z ∈ cntIx at_ i t → ∃ j : Nat, z = (i + j : Nat) ∧ j < t.length := by
 intro t
 induction t with
 | nil => intro i z hz; cases hz
 | cons x t ih =>
  intro i z hz
  unfold cntIx at hz
  rcases List.mem_append.1 hz with h | h
  ·cases hc : cnt at_ x t
   ·rw [hc] at h; cases h
   ·rw [hc] at h
    simp at h
    exact ⟨0, by simpa using h, by simp⟩
  ·obtain ⟨j, rfl, hj⟩ := ih (i + 1) z h
   exact ⟨j + 1, by congr 1; omega, by simp; omega⟩
theorem counting_spec (l : List TAct) (at_ : Int) (hl : l.length ≤ 100000) : m_club_counting l at_ = some (cntIx at_ 0 l) := by
 unfold m_club_counting
 obtain ⟨s, h1, h2, h3⟩ := rangeB_suf (m_club_counting_l1 at_) l (fun t s => (∀ k, (lkM s.1 k).getD false = und at_ t k) ∧ s.2 = (cntIx at_ (l.length - t.length) t).reverse) (by
  rintro pre x t ⟨u, v⟩ hx ⟨hu, hv⟩
  simp only at hu hv
  have hlen : pre.length + (t.length + 1) = l.length := by rw [hx]; simp
  have e0 : l.length - t.length = pre.length + 1 := by omega
  have e1 : l.length - (x :: t).length = pre.length := by simp; omega
  have hv' : v.length ≤ t.length := by rw [hv, List.length_reverse]; exact cntIx_len _ _ _
  unfold m_club_counting_l1
  have e2 : (ifB (decide (x.At > at_)) (some (.inl true)) (some (.inl ((lkM u (Tclub_own.mk x.Site x.No)).getD false))) : Option (Bool ⊕ (Flow ((List (Tclub_own × Bool)) × (List Int)) (List Int)))) = some (.inl (!cnt at_ x t)) := by
   rw [show Tclub_own.mk x.Site x.No = own x from rfl, hu]
   unfold cnt
   by_cases h : x.At > at_
   ·rw [decide_eq_true h, decide_eq_false (show ¬ x.At ≤ at_ by omega)]; rfl
   ·rw [decide_eq_false h, decide_eq_true (show x.At ≤ at_ by omega)]; simp
  rw [e2, Option.bind_some, fin_inl, e1]
  rw [e0] at hv
  cases hc : cnt at_ x t
  ·simp only [Bool.not_false, ifB_true]
   refine ⟨_, rfl, fun k => by rw [und_cons, hc, hu]; simp, ?_⟩
   simp only [cntIx, hc, cond_false, List.nil_append]; exact hv
  ·rw [Bool.not_true, ifB_false, appM_of (by simp; omega) (by omega), Option.bind_some]
   have e3 : v ++ [(pre.length : Int)] = (cntIx at_ pre.length (x :: t)).reverse := by
    simp only [cntIx, hc, cond_true]; rw [List.reverse_append, ← hv]; rfl
   cases h7 : (x.Kind == 7)
   ·rw [ifB_false]
    exact ⟨_, rfl, fun k => by rw [und_cons, hc, hu, h7]; simp, e3⟩
   ·rw [ifB_true]
    refine ⟨_, rfl, fun k => ?_, e3⟩
    simp only
    rw [und_cons, hc, h7, lkM_put]
    by_cases hk : k = ⟨x.Of, x.Other⟩
    ·rw [if_pos hk]; simp [hk]
    ·rw [if_neg hk, hu]; simp [hk]) ([], []) ⟨fun k => by simp [lkM, und], by simp [cntIx]⟩
 rw [h1, Option.bind_some, fin_brk, h3]
 have hlen := cntIx_len at_ l 0
 rw [Nat.sub_self, ReverseI_spec _ (by simp; omega), Option.bind_some, List.reverse_reverse]
end Go.G
namespace Go.G
open Go Go.J
set_option linter.unusedSimpArgs false
set_option linter.unusedVariables false
abbrev Stays := List (ByteArray × List Tclub_stay)
abbrev Motn := Bool × List (ByteArray × Bool) × List ByteArray
abbrev Mots := List (ByteArray × Motn)
structure Bk where
 st : Stays
 pd : List (ByteArray × Int)
 mo : Mots
 rf : List Int
def rowOf (st : Stays) (k : ByteArray) : List Tclub_stay := (lkM st k).getD []
def memK (st : Stays) (k : ByteArray) : Bool := match (rowOf st k).getLast? with | some s => decide (s.till < 0) | none => false
theorem last_get {α : Type} {l : List α} (h : 0 < l.length) (hl : l.length ≤ 1000000) : ∃ x, l.getLast? = some x ∧ getI l (w64 ((l.length : Int) - 1)) = some x ∧ (w64 ((l.length : Int) - 1)).toNat = l.length - 1 := by
 have h1 : l[l.length - 1]? = some (l[l.length - 1]'(by omega)) := List.getElem?_eq_getElem (by omega)
 refine ⟨_, by rw [List.getLast?_eq_getElem?]; exact h1, ?_, ?_⟩
 ·rw [w64_id (by omega)]; exact getI_of (by omega) h1
 ·rw [w64_id (by omega)]; omega
theorem isMember_spec (a : Int) (st : Stays) (pd : List (ByteArray × Int)) (mo : Mots) (rf : List Int) (k : ByteArray) (h : (rowOf st k).length ≤ 1000000) : m_club_books_isMember a st pd mo rf k = some (memK st k) := by
 unfold m_club_books_isMember memK
 show ifB (decide (((rowOf st k).length : Int) > 0)) ((getI (rowOf st k) (w64 (((rowOf st k).length : Int) - 1))).bind fun e1 => some (decide (e1.till < 0))) (some false) = _
 by_cases h0 : 0 < (rowOf st k).length
 ·obtain ⟨x, e1, e2, -⟩ := last_get h0 h
  rw [decide_eq_true (by omega), ifB_true, e2, e1]; rfl
 ·have : rowOf st k = [] := List.eq_nil_of_length_eq_zero (by omega)
  rw [this]; rfl
def openM (mo : Mots) (k : ByteArray) : Bool := match lkM mo k with | some t => !t.1 | none => false
theorem isOpen_spec (a : Int) (st : Stays) (pd : List (ByteArray × Int)) (mo : Mots) (rf : List Int) (k : ByteArray) : m_club_books_isOpen a st pd mo rf k = some (openM mo k) := by
 unfold m_club_books_isOpen openM
 cases lkM mo k <;> rfl
noncomputable def sortK (l : List ByteArray) : List ByteArray := ((l.map bytesOf).mergeSort fun x y => decide (x ≤ y)).map ofBytes
theorem Sort_K (l : List ByteArray) (h : l.length ≤ 1000000000) : m_slices_Sort_string_string l = some (sortK l) := by
 unfold m_slices_Sort_string_string sortK
 rw [if_pos (by omega)]
theorem sortK_len (l : List ByteArray) : (sortK l).length = l.length := by unfold sortK; simp
noncomputable def membersOf (st : Stays) : List ByteArray := (sortK (st.map Prod.fst)).filter (memK st)
theorem members_spec (a : Int) (st : Stays) (pd : List (ByteArray × Int)) (mo : Mots) (rf : List Int) (h : ∀ k, (rowOf st k).length ≤ 1000000) (hl : st.length ≤ 1000000) : m_club_books_members a st pd mo rf = some (membersOf st) := by
 unfold m_club_books_members m_slices_Sorted_string__maps_Keys_map_string_club_stay_string_club_stay_1
 rw [if_pos (by omega), Sort_K _ (by simp; omega), Option.bind_some, rangeM_filterMap _ (fun x => if memK st x then some x else none) _ (by
  intro i x s hx hs
  have hi := (List.getElem?_eq_some_iff.1 hx).1
  rw [sortK_len] at hi
  simp only [List.length_map] at hi
  unfold m_club_books_members_l1
  rw [isMember_spec _ _ _ _ _ _ (h x), Option.bind_some]
  cases hm : memK st x
  ·simp
  ·rw [ifB_true, appM_of (by simp; omega) (by omega)]; simp), Option.bind_some, fin_brk]
 unfold membersOf
 rw [← List.filterMap_eq_filter]
 congr 2
def perm (st : Stays) (mo : Mots) (x : TAct) : Bool :=
 bif x.Kind == 1 then !memK st x.Who else bif x.Kind == 2 then memK st x.Who else bif x.Kind == 4 then (lkM mo x.Motion).isNone else
 bif x.Kind == 5 then memK st x.Who && openM mo x.Motion else bif x.Kind == 6 then openM mo x.Motion else true
theorem permits_spec (a : Int) (st : Stays) (pd : List (ByteArray × Int)) (mo : Mots) (rf : List Int) (x : TAct) (h : ∀ k, (rowOf st k).length ≤ 1000000) : m_club_books_permits a st pd mo rf x = some (perm st mo x) := by
 unfold m_club_books_permits perm
 rw [isMember_spec _ _ _ _ _ _ (h _), isOpen_spec]
 cases x.Kind == 1 <;> cases x.Kind == 2 <;> cases x.Kind == 4 <;> cases x.Kind == 5 <;> cases x.Kind == 6 <;> cases memK st x.Who <;> cases lkM mo x.Motion <;> rfl
def quitRow (l : List Tclub_stay) (at_ : Int) : List Tclub_stay := match l.getLast? with | some s => l.set (l.length - 1) ⟨s.since, at_, s.cents⟩ | none => l
noncomputable def actB (st : Stays) (pd : List (ByteArray × Int)) (mo : Mots) (x : TAct) : Stays × List (ByteArray × Int) × Mots :=
 bif x.Kind == 1 then (putM st x.Who (rowOf st x.Who ++ [⟨x.At, -1, x.Cents⟩]), pd, mo) else
 bif x.Kind == 2 then (putM st x.Who (quitRow (rowOf st x.Who) x.At), pd, mo) else
 bif x.Kind == 3 then (st, putM pd x.Who (w64 (((lkM pd x.Who).getD 0) + x.Cents)), mo) else
 bif x.Kind == 4 then (st, pd, putM mo x.Motion (false, [], [])) else
 match lkM mo x.Motion with
 | none => (st, pd, mo)
 | some t => bif x.Kind == 5 then (st, pd, putM mo x.Motion (t.1, putM t.2.1 x.Who x.Yes, t.2.2)) else
  bif x.Kind == 6 then (st, pd, putM mo x.Motion (true, t.2.1, membersOf st)) else (st, pd, mo)
theorem memK_row {st : Stays} {k : ByteArray} (h : memK st k = true) : ∃ s, (rowOf st k).getLast? = some s ∧ s.till < 0 ∧ hasM st k = true ∧ 0 < (rowOf st k).length := by
 unfold memK at h
 cases hl : (rowOf st k).getLast? with
 | none => rw [hl] at h; cases h
 | some s =>
  rw [hl] at h
  refine ⟨s, rfl, by simpa using h, ?_, ?_⟩
  ·rw [lkM_has]
   unfold rowOf at hl
   cases h2 : lkM st k with
   | none => rw [h2] at hl; cases hl
   | some r => rfl
  ·cases hr : rowOf st k with
   | nil => rw [hr] at hl; cases hl
   | cons => simp
theorem openM_some {mo : Mots} {k : ByteArray} (h : openM mo k = true) : ∃ t, lkM mo k = some t ∧ t.1 = false := by
 unfold openM at h
 cases hl : lkM mo k with
 | none => rw [hl] at h; cases h
 | some t => rw [hl] at h; exact ⟨t, rfl, by simpa using h⟩
theorem act_spec (a : Int) (st : Stays) (pd : List (ByteArray × Int)) (mo : Mots) (rf : List Int) (x : TAct) (h : ∀ k, (rowOf st k).length ≤ 1000000) (hl : st.length ≤ 1000000) (hp : perm st mo x = true) : m_club_books_act a st pd mo rf x = some (actB st pd mo x) := by
 unfold m_club_books_act actB
 unfold perm at hp
 cases h1 : x.Kind == 1
 case true =>
  simp only [ifB_true, cond_true]
  rw [show (lkM st x.Who).getD [] = rowOf st x.Who from rfl, appM_of (by have := h x.Who; simp; omega) (by omega), Option.bind_some]
 simp only [ifB_false, cond_false]
 cases h2 : x.Kind == 2
 case true =>
  simp only [h1, h2, cond_false, cond_true] at hp
  obtain ⟨s, e1, e2, e3, e4⟩ := memK_row hp
  obtain ⟨s', f1, f2, f3⟩ := last_get e4 (h x.Who)
  rw [e1] at f1; cases f1
  simp only [ifB_true, cond_true]
  rw [show (lkM st x.Who).getD [] = rowOf st x.Who from rfl, f2, Option.bind_some, f3, ← repM_put e3]
  unfold quitRow
  rw [e1]
 simp only [ifB_false, cond_false]
 cases h3 : x.Kind == 3
 case true => rfl
 simp only [ifB_false, cond_false]
 cases h4 : x.Kind == 4
 case true => rfl
 simp only [ifB_false, cond_false]
 simp only [h1, h2, h4, cond_false] at hp
 cases h5 : x.Kind == 5
 case true =>
  simp only [h5, cond_true, Bool.and_eq_true] at hp
  obtain ⟨t, e1, e2⟩ := openM_some hp.2
  simp only [ifB_true, cond_true, e1, optB_some]
  rw [repM_put (hasM_of e1)]
 simp only [h5, cond_false] at hp
 simp only [ifB_false, cond_false]
 cases h6 : x.Kind == 6
 case true =>
  simp only [h6, cond_true] at hp
  obtain ⟨t, e1, e2⟩ := openM_some hp
  simp only [ifB_true, cond_true, e1, optB_some]
  rw [members_spec a st pd mo rf h hl, Option.bind_some, repM_put (hasM_of e1)]
 simp only [ifB_false, cond_false]
 cases lkM mo x.Motion <;> rfl
noncomputable def stepX (s : Bk) (z : Int) (x : TAct) : Bk :=
 if perm s.st s.mo x = true then ⟨(actB s.st s.pd s.mo x).1, (actB s.st s.pd s.mo x).2.1, (actB s.st s.pd s.mo x).2.2, s.rf⟩ else ⟨s.st, s.pd, s.mo, s.rf ++ [z]⟩
noncomputable def stepB (l : List TAct) (s : Bk) (z : Int) : Bk := match l[z.toNat]? with | some x => stepX s z x | none => s
noncomputable def booksOf (l : List TAct) (at_ : Int) : Bk := (cntIx at_ 0 l).foldl (stepB l) ⟨[], [], [], []⟩
structure BOK (n : Nat) (s : Bk) : Prop where
 row : ∀ k, (rowOf s.st k).length ≤ n
 len : s.st.length ≤ n
 rf : s.rf.length ≤ n
theorem rowOf_put (st : Stays) (k j : ByteArray) (r : List Tclub_stay) : rowOf (putM st k r) j = if j = k then r else rowOf st j := by
 unfold rowOf
 rw [lkM_put]
 split <;> rfl
theorem putM_len {K V : Type} [DecidableEq K] (l : List (K × V)) (k : K) (v : V) : (putM l k v).length ≤ l.length + 1 := by
 have := congrArg List.length (putM_keys l k v)
 rw [List.length_map] at this
 rw [this]
 split <;> simp
theorem quitRow_len (l : List Tclub_stay) (a : Int) : (quitRow l a).length = l.length := by unfold quitRow; split <;> simp
theorem BOK.step {n : Nat} {s : Bk} (h : BOK n s) (z : Int) (x : TAct) : BOK (n + 1) (stepX s z x) := by
 have hr := h.row; have hl := h.len; have hf := h.rf
 unfold stepX
 split
 ·rename_i hp
  unfold actB
  have base : BOK (n + 1) ⟨s.st, s.pd, s.mo, s.rf⟩ := ⟨fun k => by have := hr k; simp only; omega, by simp only; omega, by simp only; omega⟩
  have base2 : ∀ pd mo, BOK (n + 1) ⟨s.st, pd, mo, s.rf⟩ := fun pd mo => ⟨fun k => by have := hr k; simp only; omega, by simp only; omega, by simp only; omega⟩
  cases h1 : x.Kind == 1
  case true =>
   simp only [cond_true]
   refine ⟨fun k => ?_, ?_, by simp only; omega⟩
   ·rw [rowOf_put]
    have := hr k; have := hr x.Who
    split
    ·simp; omega
    ·omega
   ·have := putM_len s.st x.Who (rowOf s.st x.Who ++ [⟨x.At, -1, x.Cents⟩]); simp only; omega
  simp only [cond_false]
  cases h2 : x.Kind == 2
  case true =>
   simp only [cond_true]
   refine ⟨fun k => ?_, ?_, by simp only; omega⟩
   ·rw [rowOf_put]
    have := hr k; have := hr x.Who
    split
    ·rw [quitRow_len]; omega
    ·omega
   ·have := putM_len s.st x.Who (quitRow (rowOf s.st x.Who) x.At); simp only; omega
  simp only [cond_false]
  cases h3 : x.Kind == 3
  case true => exact base2 _ _
  simp only [cond_false]
  cases h4 : x.Kind == 4
  case true => exact base2 _ _
  simp only [cond_false]
  cases lkM s.mo x.Motion with
  | none => exact base2 _ _
  | some t =>
   simp only
   cases h5 : x.Kind == 5
   ·cases h6 : x.Kind == 6
    ·exact base2 _ _
    ·exact base2 _ _
   ·exact base2 _ _
 ·exact ⟨fun k => by have := hr k; simp only; omega, by simp only; omega, by simp; omega⟩
theorem bookL1 (l : List TAct) (at_ : Int) (s : Bk) (i : Nat) (z : Nat) (x : TAct) (hx : l[z]? = some x) (n : Nat) (h : BOK n s) (hn : n ≤ 100000) :
  m_club_booksAt_l1 l at_ i (z : Int) (s.mo, s.pd, s.st, s.rf) = some (.nxt ((stepX s z x).mo, (stepX s z x).pd, (stepX s z x).st, (stepX s z x).rf)) := by
 have hg : getI l (z : Int) = some x := getI_of rfl hx
 have hrow : ∀ k, (rowOf s.st k).length ≤ 1000000 := fun k => by have := h.row k; omega
 have hlen := h.len; have hf := h.rf
 unfold m_club_booksAt_l1 stepX
 rw [hg, Option.bind_some, Option.bind_some, permits_spec _ _ _ _ _ _ hrow, Option.bind_some]
 cases hp : perm s.st s.mo x
 ·rw [ifB_false, appM_of (by simp; omega) (by omega), Option.bind_some]; simp
 ·rw [ifB_true, act_spec _ _ _ _ _ _ hrow (by omega) hp, Option.bind_some]; simp
theorem booksAt_spec (l : List TAct) (at_ : Int) (hl : l.length ≤ 2000) : m_club_booksAt l at_ = some (at_, (booksOf l at_).st, (booksOf l at_).pd, (booksOf l at_).mo, (booksOf l at_).rf) ∧ BOK 2000 (booksOf l at_) := by
 have hc := cntIx_len at_ l 0
 have key : ∀ (t : List Int) (i : Nat) (s : Bk) (n : Nat), (∀ z ∈ t, ∃ j : Nat, z = (j : Int) ∧ j < l.length) → BOK n s → n + t.length ≤ 2000 →
   rangeM (m_club_booksAt_l1 l at_) i t (s.mo, s.pd, s.st, s.rf) = some (.brk ((t.foldl (stepB l) s).mo, (t.foldl (stepB l) s).pd, (t.foldl (stepB l) s).st, (t.foldl (stepB l) s).rf)) ∧ BOK (n + t.length) (t.foldl (stepB l) s) := by
  intro t
  induction t with
  | nil => intro i s n _ hb _; exact ⟨rfl, hb⟩
  | cons z t ih =>
   intro i s n hz hb hn
   simp only [List.length_cons] at hn
   obtain ⟨j, rfl, hj⟩ := hz z (List.mem_cons_self ..)
   have hx : l[j]? = some (l[j]'hj) := List.getElem?_eq_getElem hj
   have e1 : stepB l s (j : Int) = stepX s j (l[j]'hj) := by unfold stepB; rw [Int.toNat_natCast, hx]
   obtain ⟨g1, g2⟩ := ih (i + 1) (stepX s j (l[j]'hj)) (n + 1) (fun z hz' => hz z (List.mem_cons_of_mem _ hz')) (hb.step _ _) (by omega)
   rw [rangeM_cons, bookL1 l at_ s i j _ hx n hb (by omega), Option.bind_some, run_nxt, List.foldl_cons, e1]
   exact ⟨g1, by rw [List.length_cons, show n + (t.length + 1) = n + 1 + t.length by omega]; exact g2⟩
 obtain ⟨g1, g2⟩ := key (cntIx at_ 0 l) 0 ⟨[], [], [], []⟩ 0 (fun z hz => by
  obtain ⟨j, rfl, hj⟩ := cntIx_mem at_ l 0 z hz
  exact ⟨0 + j, rfl, by omega⟩) ⟨fun k => by simp [rowOf, lkM], by simp, by simp⟩ (by omega)
 refine ⟨?_, ?_⟩
 ·unfold m_club_booksAt
  rw [counting_spec l at_ (by omega), Option.bind_some, g1]; rfl
 ·exact ⟨fun k => Nat.le_trans (g2.row k) (by omega), Nat.le_trans g2.len (by omega), Nat.le_trans g2.rf (by omega)⟩
end Go.G
namespace Go.G
open Go Go.J
set_option linter.unusedSimpArgs false
def askF (l : List TAct) (at_ : Int) : Int := bif actsF l != 0 then actsF l else bif isAt at_ then 0 else 1
theorem askF_zero {l : List TAct} {at_ : Int} (h : askF l at_ = 0) : ActsOK l ∧ isAt at_ = true := by
 unfold askF at h
 by_cases h1 : actsF l = 0
 ·rw [show (actsF l != 0) = false by simpa using h1, cond_false] at h
  cases h2 : isAt at_
  ·rw [h2] at h; cases h
  ·exact ⟨(actsF_zero l).1 h1, rfl⟩
 ·rw [show (actsF l != 0) = true by simpa using h1, cond_true] at h
  exact (h1 h).elim
theorem askF_of {l : List TAct} {at_ : Int} (h : ActsOK l) (h2 : isAt at_ = true) : askF l at_ = 0 := by
 unfold askF
 rw [(actsF_zero l).2 h, h2]; rfl
theorem askedFault_spec (l : List TAct) (at_ : Int) : m_club_askedFault l at_ = some (askF l at_) := by
 unfold m_club_askedFault askF
 rw [CheckActs_spec, Option.bind_some, IsMoment_R, Option.bind_some]
 cases (actsF l != 0) <;> cases isAt at_ <;> rfl
abbrev BkT := Int × Stays × List (ByteArray × Int) × Mots × List Int
noncomputable def bookT (l : List TAct) (at_ : Int) : BkT := (at_, (booksOf l at_).st, (booksOf l at_).pd, (booksOf l at_).mo, (booksOf l at_).rf)
theorem checkedAt_spec (l : List TAct) (at_ : Int) : m_club_checkedAt l at_ = some (if askF l at_ = 0 then (some (bookT l at_), 0) else (none, askF l at_)) := by
 unfold m_club_checkedAt
 rw [askedFault_spec, Option.bind_some]
 by_cases h : askF l at_ = 0
 ·rw [show (askF l at_ != 0) = false by simpa using h, ifB_false, (booksAt_spec l at_ (askF_zero h).1.len).1, Option.bind_some, if_pos h]; rfl
 ·rw [show (askF l at_ != 0) = true by simpa using h, ifB_true, if_neg h]
theorem BOK.rows {n : Nat} {s : Bk} (h : BOK n s) (hn : n ≤ 1000000) (k : ByteArray) : (rowOf s.st k).length ≤ 1000000 := Nat.le_trans (h.row k) hn
theorem Members_spec (l : List TAct) (at_ : Int) : m_club_Members l at_ = some (if askF l at_ = 0 then (membersOf (booksOf l at_).st, 0) else ([], askF l at_)) := by
 unfold m_club_Members
 rw [checkedAt_spec, Option.bind_some]
 by_cases h : askF l at_ = 0
 ·obtain ⟨-, hb⟩ := booksAt_spec l at_ (askF_zero h).1.len
  simp only [if_pos h, optB_some]
  rw [show ((0 : Int) != 0) = false from rfl, ifB_false]
  unfold bookT
  simp only
  rw [members_spec _ _ _ _ _ (hb.rows (by omega)) (Nat.le_trans hb.len (by omega))]; rfl
 ·simp only [if_neg h, optB_none]
  rw [show (askF l at_ != 0) = true by simpa using h, ifB_true]
def annA : ByteArray := ByteArray.mk [97, 110, 110].toArray
def oneA : TAct := TAct.mk (ByteArray.mk [97].toArray) 1 0 1 annA ByteArray.empty 0 false ByteArray.empty 0
theorem one_ok : ActsOK [oneA] := by
 refine ⟨by simp, fun x hx => ?_, fun i x y hx hy => ?_, by simp⟩
 ·simp only [List.mem_singleton] at hx
  subst hx
  kernel_rfl
 ·simp at hy
theorem sortK_one (a : ByteArray) : sortK [a] = [a] := by
 unfold sortK
 rw [List.map_cons, List.map_nil, List.mergeSort_singleton]; rfl
theorem one_member : m_club_Members [oneA] 0 = some ([annA], 0) := by
 rw [Members_spec, if_pos (askF_of one_ok (by kernel_rfl))]
 have h1 : (booksOf [oneA] 0).st = [(annA, [⟨0, -1, 0⟩])] := by
  unfold booksOf
  rw [show cntIx 0 0 [oneA] = [(0 : Int)] from rfl]
  simp only [List.foldl_cons, List.foldl_nil]
  rw [show stepB [oneA] ⟨[], [], [], []⟩ 0 = stepX ⟨[], [], [], []⟩ 0 oneA from rfl]
  unfold stepX
  rw [if_pos (show perm [] [] oneA = true from rfl)]
  rfl
 unfold membersOf
 rw [h1]
 simp only [List.map_cons, List.map_nil]
 rw [sortK_one]
 have : memK [(annA, [⟨0, -1, 0⟩])] annA = true := by
  unfold memK rowOf lkM
  simp
 simp [this]
end Go.G
