/- LRw: windows: how many moments of a window are of a kind; windows put together, windows within another one. In plain Lean, no program in sight. -/
import Derived.Test.YtkeieikpobfapabGreatDoorLSl
namespace Go.G
open Go Go.J
set_option linter.unusedSimpArgs false
set_option linter.unusedVariables false
def cntW (p : Int → Bool) (a b : Int) : Int := (((List.range (b - a).toNat).countP fun (i : Nat) => p (a + (i : Int)) : Nat) : Int)
theorem cntW_congr {p q : Int → Bool} {a b : Int} (h : ∀ t, a ≤ t → t < b → p t = q t) : cntW p a b = cntW q a b := by
 unfold cntW
 congr 1
 refine List.countP_congr fun i hi => ?_
 have := List.mem_range.1 hi
 rw [h _ (by omega) (by omega)]
theorem cntW_split (p : Int → Bool) {a b c : Int} (h1 : a ≤ b) (h2 : b ≤ c) : cntW p a c = cntW p a b + cntW p b c := by
 unfold cntW
 have e : (c - a).toNat = (b - a).toNat + (c - b).toNat := by omega
 rw [e, List.range_add, List.countP_append, List.countP_map, Int.natCast_add]
 congr 1
 congr 1
 refine List.countP_congr fun i hi => ?_
 have : a + (((b - a).toNat + i : Nat) : Int) = b + (i : Int) := by omega
 simp only [Function.comp]
 rw [this]
theorem cntW_nil (p : Int → Bool) {a b : Int} (h : b ≤ a) : cntW p a b = 0 := by
 unfold cntW
 rw [show (b - a).toNat = 0 by omega]
 rfl
theorem cntW_nonneg (p : Int → Bool) (a b : Int) : 0 ≤ cntW p a b := by unfold cntW; omega
theorem cntW_all {p : Int → Bool} {a b : Int} (hab : a ≤ b) (h : ∀ t, a ≤ t → t < b → p t = true) : cntW p a b = b - a := by
 unfold cntW
 have : (List.range (b - a).toNat).countP (fun (i : Nat) => p (a + (i : Int))) = (b - a).toNat := by
  rw [List.countP_eq_length.2 (fun i hi => h _ (by omega) (by have := List.mem_range.1 hi; omega)), List.length_range]
 rw [this]; omega
theorem cntW_none {p : Int → Bool} {a b : Int} (h : ∀ t, a ≤ t → t < b → p t = false) : cntW p a b = 0 := by
 unfold cntW
 rw [List.countP_eq_zero.2 (fun i hi => by have := List.mem_range.1 hi; rw [h _ (by omega) (by omega)]; simp)]
 rfl
theorem cntW_mono {p q : Int → Bool} {a b : Int} (h : ∀ t, a ≤ t → t < b → p t = true → q t = true) : cntW p a b ≤ cntW q a b := by
 unfold cntW
 have : (List.range (b - a).toNat).countP (fun (i : Nat) => p (a + (i : Int))) ≤ (List.range (b - a).toNat).countP (fun (i : Nat) => q (a + (i : Int))) :=
  List.countP_mono_left fun i hi => h _ (by omega) (by have := List.mem_range.1 hi; omega)
 omega
theorem cntW_or (p q : Int → Bool) (a b : Int) (h : ∀ t, a ≤ t → t < b → p t = true → q t = false) : cntW (fun t => p t || q t) a b = cntW p a b + cntW q a b := by
 unfold cntW
 have key : ∀ l : List Nat, (∀ i ∈ l, p (a + (i : Int)) = true → q (a + (i : Int)) = false) → l.countP (fun (i : Nat) => p (a + (i : Int)) || q (a + (i : Int))) = l.countP (fun (i : Nat) => p (a + (i : Int))) + l.countP (fun (i : Nat) => q (a + (i : Int))) := by
  intro l
  induction l with
  | nil => intro _; rfl
  | cons x t ih =>
   intro hl
   have h1 := ih fun i hi => hl i (List.mem_cons_of_mem _ hi)
   have h2 := hl x (List.mem_cons_self ..)
   rw [List.countP_cons, List.countP_cons, List.countP_cons, h1]
   cases hp : p (a + (x : Int)) with
   | true => rw [h2 hp]; simp; omega
   | false => cases q (a + (x : Int)) <;> simp <;> omega
 rw [key _ fun i hi => h _ (by omega) (by have := List.mem_range.1 hi; omega)]
 omega
theorem cntW_le {p : Int → Bool} {a b : Int} (h : a ≤ b) : cntW p a b ≤ b - a := by
 have h1 := cntW_mono (p := p) (q := fun _ => true) (a := a) (b := b) fun _ _ _ _ => rfl
 rw [cntW_all (p := fun _ => true) h fun _ _ _ => rfl] at h1
 exact h1
def hasW (w : TWindow) (t : Int) : Bool := decide (w.From ≤ t) && decide (t < w.To)
theorem hasW_iff {w : TWindow} {t : Int} : hasW w t = true ↔ w.From ≤ t ∧ t < w.To := by unfold hasW; rw [Bool.and_eq_true, decide_eq_true_eq, decide_eq_true_eq]
theorem cntW_win (w : TWindow) (p : Int → Bool) (a b : Int) : cntW (fun t => hasW w t && p t) a b = cntW p (max a w.From) (min b w.To) := by
 by_cases h : max a w.From < min b w.To
 ·rw [cntW_split (fun t => hasW w t && p t) (show a ≤ max a w.From by omega) (show max a w.From ≤ b by omega), cntW_split (fun t => hasW w t && p t) (show max a w.From ≤ min b w.To by omega) (show min b w.To ≤ b by omega)]
  rw [cntW_none (a := a) (b := max a w.From) (fun t h1 h2 => by rw [show hasW w t = false from Bool.eq_false_iff.2 fun g => by have := hasW_iff.1 g; omega]; rfl)]
  rw [cntW_none (a := min b w.To) (b := b) (fun t h1 h2 => by rw [show hasW w t = false from Bool.eq_false_iff.2 fun g => by have := hasW_iff.1 g; omega]; rfl)]
  rw [cntW_congr (p := fun t => hasW w t && p t) (q := p) (fun t h1 h2 => by rw [show hasW w t = true from hasW_iff.2 (by omega)]; rfl)]
  omega
 ·rw [cntW_nil p (show min b w.To ≤ max a w.From by omega), cntW_none fun t h1 h2 => by rw [show hasW w t = false from Bool.eq_false_iff.2 fun g => by have := hasW_iff.1 g; omega]; rfl]
def covW (l : List TWindow) (t : Int) : Bool := l.any fun w => hasW w t
def EndI : Int := 345686400000
structure SepW (l : List TWindow) : Prop where
 pw : l.Pairwise fun a b => a.To < b.From
 ok : ∀ w ∈ l, 0 ≤ w.From ∧ w.From < w.To ∧ w.To ≤ EndI
theorem SepW.tail {w : TWindow} {l : List TWindow} (h : SepW (w :: l)) : SepW l := ⟨(List.pairwise_cons.1 h.pw).2, fun x hx => h.ok x (List.mem_cons_of_mem _ hx)⟩
def lenS (l : List TWindow) : Int := l.foldr (fun w n => (w.To - w.From) + n) 0
def clipW (f w : TWindow) : Option TWindow := if max w.From f.From < min w.To f.To then some ⟨max w.From f.From, min w.To f.To⟩ else none
theorem cov_cons (w : TWindow) (l : List TWindow) (t : Int) : covW (w :: l) t = (hasW w t || covW l t) := rfl
theorem sep_disj {w : TWindow} {l : List TWindow} (h : SepW (w :: l)) {t : Int} (ht : hasW w t = true) : covW l t = false := by
 refine List.any_eq_false.2 fun x hx g => ?_
 have h1 := (List.pairwise_cons.1 h.pw).1 x hx
 have h2 := hasW_iff.1 ht
 have h3 := hasW_iff.1 g
 omega
theorem cntW_cov (p : Int → Bool) (a b : Int) : ∀ (l : List TWindow), SepW l → cntW (fun t => covW l t && p t) a b = l.foldr (fun w n => cntW p (max a w.From) (min b w.To) + n) 0 := by
 intro l
 induction l with
 | nil => intro _; exact cntW_none fun _ _ _ => rfl
 | cons w l ih =>
  intro h
  rw [List.foldr_cons, ← ih h.tail, ← cntW_win, ← cntW_or]
  ·refine cntW_congr fun t _ _ => ?_
   rw [cov_cons]
   cases hasW w t <;> cases covW l t <;> cases p t <;> rfl
  ·intro t _ _ ht
   rw [Bool.and_eq_true] at ht
   rw [sep_disj h ht.1]; rfl
theorem len_within (f : TWindow) (l : List TWindow) (h : SepW l) : lenS (l.filterMap (clipW f)) = cntW (covW l) f.From f.To := by
 have e : cntW (covW l) f.From f.To = cntW (fun t => covW l t && true) f.From f.To := cntW_congr fun t _ _ => (Bool.and_true _).symm
 rw [e, cntW_cov (fun _ => true) _ _ l h]
 clear e h
 induction l with
 | nil => rfl
 | cons w l ih =>
  rw [List.filterMap_cons, List.foldr_cons, ← ih]
  unfold clipW
  by_cases g : max w.From f.From < min w.To f.To
  ·rw [if_pos g, cntW_all (by omega) (fun _ _ _ => rfl)]
   show _ + lenS _ = _
   simp only
   have : max f.From w.From = max w.From f.From := by omega
   have : min f.To w.To = min w.To f.To := by omega
   unfold clipW at *
   omega
  ·rw [if_neg g, cntW_nil _ (by omega)]
   unfold clipW at *
   simp
theorem within_l1 (f w : TWindow) (i : Nat) (u : List TWindow) (hu : u.length ≤ 1000000) : m_rehearse_within_l1 f i w u = some (.nxt (match clipW f w with | none => u | some y => u ++ [y])) := by
 unfold m_rehearse_within_l1 clipW
 by_cases g : max w.From f.From < min w.To f.To
 ·rw [decide_eq_true g, ifB_true, if_pos g, appM_of (by rw [List.length_singleton]; omega) (by omega)]; rfl
 ·rw [decide_eq_false g, ifB_false, if_neg g]
theorem within_spec (l : List TWindow) (f : TWindow) (hl : l.length ≤ 1000000) : m_rehearse_within l f = some (l.filterMap (clipW f)) := by
 unfold m_rehearse_within
 have key : ∀ (t : List TWindow) (i : Nat) (u : List TWindow), u.length + t.length ≤ 1000000 → rangeM (m_rehearse_within_l1 f) i t u = some (.brk (u ++ t.filterMap (clipW f))) := by
  intro t
  induction t with
  | nil => intro i u _; simp
  | cons w t ih =>
   intro i u hu
   rw [List.length_cons] at hu
   rw [rangeM_cons, List.filterMap_cons, within_l1 f w i u (by omega), Option.bind_some, run_nxt]
   cases hc : clipW f w with
   | none => exact ih _ _ (show u.length + t.length ≤ 1000000 by omega)
   | some y =>
    simp only
    rw [ih _ _ (by rw [List.length_append, List.length_singleton]; omega)]
    simp
 rw [key l 0 [] (by simpa using hl), Option.bind_some, fin_brk, List.nil_append]
def joinS (u : List TWindow) (w : TWindow) : List TWindow := match u.getLast? with
 | none => u ++ [w]
 | some e => if w.From ≤ e.To then u.dropLast ++ [⟨e.From, max e.To w.To⟩] else u ++ [w]
theorem joinS_len (u : List TWindow) (w : TWindow) : (joinS u w).length ≤ u.length + 1 := by
 unfold joinS
 cases h : u.getLast? with
 | none => simp
 | some e =>
  simp only
  split
  ·simp <;> omega
  ·simp
theorem joined_l1 (i : Nat) (w : TWindow) (u : List TWindow) (hu : u.length ≤ 1000000) : m_rehearse_joined_l1 i w u = some (.nxt (joinS u w)) := by
 unfold m_rehearse_joined_l1 joinS
 rcases List.eq_nil_or_concat u with rfl | ⟨r, e, rfl⟩
 ·rfl
 ·rw [List.concat_eq_append] at hu ⊢
  rw [List.length_append, List.length_singleton] at hu
  have hw : w64 (((r ++ [e]).length : Int) - 1) = (r.length : Int) := by rw [List.length_append, List.length_singleton, w64_id (by omega)]; omega
  have hg : getI (r ++ [e]) (r.length : Int) = some e := getI_of rfl (by simp)
  rw [hw, decide_eq_true (show (r.length : Int) ≥ 0 by omega), ifB_true, hg, Option.bind_some, List.getLast?_concat]
  simp only
  by_cases g : w.From ≤ e.To
  ·rw [decide_eq_true g, ifB_true, if_pos g, Option.bind_some, Option.bind_some]
   simp
  ·rw [decide_eq_false g, ifB_false, if_neg g, appM_of (by rw [List.length_append, List.length_singleton, List.length_singleton]; omega) (by omega)]
   rfl
def joinF (l : List TWindow) : List TWindow := l.foldl joinS []
theorem joined_spec (l : List TWindow) (hl : l.length ≤ 1000000) : m_rehearse_joined l = some (joinF l) := by
 unfold m_rehearse_joined joinF
 have key : ∀ (t : List TWindow) (i : Nat) (u : List TWindow), u.length + t.length ≤ 1000000 → rangeM m_rehearse_joined_l1 i t u = some (.brk (t.foldl joinS u)) := by
  intro t
  induction t with
  | nil => intro i u _; rfl
  | cons w t ih =>
   intro i u hu
   rw [List.length_cons] at hu
   rw [rangeM_cons, joined_l1 i w u (by omega), Option.bind_some, run_nxt, ih _ _ (by have := joinS_len u w; omega)]
   rfl
 rw [key l 0 [] (by simpa using hl), Option.bind_some, fin_brk]
theorem joinF_len (l : List TWindow) : (joinF l).length ≤ l.length := by
 have key : ∀ (t u : List TWindow), (t.foldl joinS u).length ≤ u.length + t.length := by
  intro t
  induction t with
  | nil => intro u; simp
  | cons w t ih =>
   intro u
   rw [List.foldl_cons, List.length_cons]
   have h1 := ih (joinS u w)
   have h2 := joinS_len u w
   omega
 have := key l []
 unfold joinF
 simpa using this
structure RiseW (l : List TWindow) : Prop where
 pw : l.Pairwise fun a b => a.From ≤ b.From
 ok : ∀ w ∈ l, 0 ≤ w.From ∧ w.From < w.To ∧ w.To ≤ EndI
theorem RiseW.sub {l l' : List TWindow} (h : RiseW l) (hs : l'.Sublist l) : RiseW l' := ⟨h.pw.sublist hs, fun w hw => h.ok w (hs.subset hw)⟩
theorem joinF_spec (l : List TWindow) (h : RiseW l) : SepW (joinF l) ∧ ∀ t, covW (joinF l) t = covW l t := by
 have key : ∀ (t u done : List TWindow), RiseW t → SepW u → (∀ x ∈ u, ∀ w ∈ t, x.From ≤ w.From) → (∀ z, covW u z = covW done z) → SepW (t.foldl joinS u) ∧ ∀ z, covW (t.foldl joinS u) z = covW (done ++ t) z := by
  intro t
  induction t with
  | nil => intro u done _ hu _ hc; exact ⟨hu, fun z => by rw [List.append_nil]; exact hc z⟩
  | cons w t ih =>
   intro u done ht hu hle hc
   have hw := ht.ok w (List.mem_cons_self ..)
   have ht' : RiseW t := ht.sub (List.sublist_cons_self ..)
   have hwt := (List.pairwise_cons.1 ht.pw).1
   rw [List.foldl_cons]
   have hcc : ∀ u', SepW u' → (∀ x ∈ u', ∀ y ∈ t, x.From ≤ y.From) → (∀ z, covW u' z = (covW u z || hasW w z)) → joinS u w = u' → SepW (t.foldl joinS (joinS u w)) ∧ ∀ z, covW (t.foldl joinS (joinS u w)) z = covW (done ++ w :: t) z := by
    intro u' h1 h2 h3 h4
    rw [h4]
    have := ih u' (done ++ [w]) ht' h1 h2 (fun z => by rw [h3, hc]; unfold covW; rw [List.any_append]; simp)
    rwa [List.append_assoc] at this
   rcases List.eq_nil_or_concat u with rfl | ⟨r, e, rfl⟩
   ·refine hcc [w] ⟨List.pairwise_singleton _ _, fun x hx => by rw [List.mem_singleton.1 hx]; exact hw⟩ (fun x hx y hy => by rw [List.mem_singleton.1 hx]; exact hwt y hy) (fun z => by unfold covW; simp) rfl
   ·rw [List.concat_eq_append] at *
    have he := hu.ok e (by simp)
    have hpr := List.pairwise_append.1 hu.pw
    have hre : ∀ x ∈ r, x.To < e.From := fun x hx => hpr.2.2 x hx e (by simp)
    have hew := hle e (by simp) w (List.mem_cons_self ..)
    by_cases g : w.From ≤ e.To
    ·refine hcc (r ++ [⟨e.From, max e.To w.To⟩]) ⟨?_, ?_⟩ ?_ ?_ ?_
     ·exact List.pairwise_append.2 ⟨hpr.1, List.pairwise_singleton _ _, fun x hx y hy => by rw [List.mem_singleton.1 hy]; exact hre x hx⟩
     ·intro x hx
      rcases List.mem_append.1 hx with hx | hx
      ·exact hu.ok x (List.mem_append_left _ hx)
      ·rw [List.mem_singleton.1 hx]
       exact ⟨he.1, by show e.From < max e.To w.To; omega, by show max e.To w.To ≤ EndI; omega⟩
     ·intro x hx y hy
      rcases List.mem_append.1 hx with hx | hx
      ·exact hle x (List.mem_append_left _ hx) y (List.mem_cons_of_mem _ hy)
      ·rw [List.mem_singleton.1 hx]
       exact hle e (by simp) y (List.mem_cons_of_mem _ hy)
     ·intro z
      unfold covW
      rw [List.any_append, List.any_append, Bool.or_assoc]
      congr 1
      simp only [List.any_cons, List.any_nil, Bool.or_false]
      rw [Bool.eq_iff_iff, Bool.or_eq_true, hasW_iff, hasW_iff, hasW_iff]
      show e.From ≤ z ∧ z < max e.To w.To ↔ _
      omega
     ·unfold joinS
      rw [List.getLast?_concat]
      simp only
      rw [if_pos g, List.dropLast_concat]
    ·refine hcc (r ++ [e] ++ [w]) ⟨?_, ?_⟩ ?_ ?_ ?_
     ·refine List.pairwise_append.2 ⟨hu.pw, List.pairwise_singleton _ _, fun x hx y hy => ?_⟩
      rw [List.mem_singleton.1 hy]
      rcases List.mem_append.1 hx with hx | hx
      ·have := hre x hx; omega
      ·rw [List.mem_singleton.1 hx]; omega
     ·intro x hx
      rcases List.mem_append.1 hx with hx | hx
      ·exact hu.ok x hx
      ·rw [List.mem_singleton.1 hx]; exact hw
     ·intro x hx y hy
      rcases List.mem_append.1 hx with hx | hx
      ·exact hle x hx y (List.mem_cons_of_mem _ hy)
      ·rw [List.mem_singleton.1 hx]; exact hwt y hy
     ·intro z
      unfold covW
      rw [List.any_append (ys := [w])]
      simp
     ·unfold joinS
      rw [List.getLast?_concat]
      simp only
      rw [if_neg g]
 have := key l [] [] h ⟨List.Pairwise.nil, fun _ h => by cases h⟩ (fun _ h => by cases h) (fun _ => rfl)
 unfold joinF
 simpa using this
end Go.G
