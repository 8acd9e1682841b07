/- LRk: who came and left: when they were there; how long a singer has rehearsed. In plain Lean, no program in sight. -/
import Derived.Test.YtkeieikpobfapabGreatDoorLRa
namespace Go.G
open Go Go.J
set_option linter.unusedSimpArgs false
set_option linter.unusedVariables false
theorem Or_three (a b c : Int) : m_cmp_Or_int [a, b, c] = some (bif a != 0 then a else bif b != 0 then b else c) := by
 unfold m_cmp_Or_int
 rw [rangeM_cons]
 unfold m_cmp_Or_int_l1
 cases h1 : (a != 0)
 ·rw [ifB_false, Option.bind_some, run_nxt, rangeM_cons]
  cases h2 : (b != 0)
  ·rw [ifB_false, Option.bind_some, run_nxt, rangeM_cons]
   cases h3 : (c != 0)
   ·have : c = 0 := by simpa using h3
    simp [this]
   ·simp
  ·simp
 ·simp
def flagI (b : Bool) : Int := bif b then 1 else 0
theorem flag_s (b : Bool) : m_rehearse_flagNumber b = some (flagI b) := by cases b <;> rfl
def cIn (a b : Int) : Int := bif decide (a < b) then -1 else bif decide (a > b) then 1 else 0
def cmpC (a b : TCame) : Int := bif cIn a.At b.At != 0 then cIn a.At b.At else bif Lib.compareBytes (bytesOf a.Singer) (bytesOf b.Singer) != 0 then Lib.compareBytes (bytesOf a.Singer) (bytesOf b.Singer) else cIn (flagI a.Left) (flagI b.Left)
theorem cmpC_prog (a b : TCame) : m_rehearse_compareCame a b = some (cmpC a b) := by
 unfold m_rehearse_compareCame cmpC
 rw [cI_s, Option.bind_some, show m_strings_Compare a.Singer b.Singer = some (Lib.compareBytes (bytesOf a.Singer) (bytesOf b.Singer)) from rfl, Option.bind_some, flag_s, Option.bind_some, flag_s, Option.bind_some, cI_s, Option.bind_some, Or_three]; rfl
def isMo (n : Int) : Bool := decide (0 ≤ n ∧ n ≤ 345686399999)
theorem Outside_m (n lo hi : Int) : m_kit_Outside n lo hi = some (!decide (lo ≤ n ∧ n ≤ hi)) := by
 unfold m_kit_Outside
 by_cases h1 : n < lo
 ·rw [decide_eq_true h1, ifB_true, decide_eq_false (by omega)]; rfl
 ·rw [decide_eq_false h1, ifB_false]
  by_cases h2 : n > hi
  ·rw [decide_eq_true h2, decide_eq_false (by omega)]; rfl
  ·rw [decide_eq_false h2, decide_eq_true (by omega)]; rfl
theorem isMo_prog (n : Int) : m_kit_IsMoment n = some (isMo n) := by unfold m_kit_IsMoment isMo; rw [Outside_m, Option.bind_some, Bool.not_not]
def cmF (c : List TCame) (i : Nat) (x : TCame) : Int :=
 bif !isMo x.At then 1 else bif !isKey x.Singer then 5 else bif (if i = 0 then false else match c[i - 1]? with | some p => decide (cmpC p x ≥ 0) | none => false) then 7 else 0
theorem cm_prog (c : List TCame) (hl : c.length ≤ 1000000) (i : Nat) (x : TCame) (hx : c[i]? = some x) : m_rehearse_CheckCame_l1 c i x () = some (out1S (cmF c i x)) := by
 have hi := (List.getElem?_eq_some_iff.1 hx).1
 unfold m_rehearse_CheckCame_l1 cmF out1S
 rw [isMo_prog, isKey_prog]
 cases isMo x.At
 ·rfl
 cases isKey x.Singer
 ·rfl
 simp only [Option.bind_some, Bool.not_true, ifB_false, cond_false]
 by_cases h0 : i = 0
 ·rw [if_pos h0, decide_eq_false (by omega)]; rfl
 ·have hg : c[i - 1]? = some (c[i - 1]'(by omega)) := List.getElem?_eq_getElem (by omega)
  rw [if_neg h0, decide_eq_true (by omega), ifB_true, w64_id (by omega), getI_of (n := i - 1) (by omega) hg, hg, Option.bind_some, cmpC_prog, Option.bind_some]
  simp only
  cases decide (cmpC (c[i - 1]'(by omega)) x ≥ 0) <;> rfl
def CmOK (c : List TCame) : Prop := c.length ≤ 5000 ∧ ∀ (i : Nat) x, c[i]? = some x → cmF c i x = 0
theorem Came_ok {c : List TCame} (h : CmOK c) : m_rehearse_CheckCame c = some 0 := by
 unfold m_rehearse_CheckCame
 rw [decide_eq_false (by have := h.1; omega), ifB_false]
 obtain ⟨e, h1, h2⟩ := loop_out _ (cmF c) c (cm_prog c (by have := h.1; omega))
 rw [h1, h2.2 h.2]
theorem cmpC_at {a b : TCame} (h : ¬ cmpC a b ≥ 0) : a.At ≤ b.At := by
 unfold cmpC cIn at h
 by_cases h1 : a.At < b.At
 ·omega
 ·by_cases h2 : a.At > b.At
  ·rw [decide_eq_false h1, decide_eq_true h2] at h
   exact absurd (by decide : (1 : Int) ≥ 0) h
  ·omega
theorem cm_at {c : List TCame} (h : CmOK c) {x : TCame} (hx : x ∈ c) : 0 ≤ x.At ∧ x.At ≤ 345686399999 := by
 obtain ⟨i, hi, rfl⟩ := List.getElem_of_mem hx
 have := h.2 i c[i] (List.getElem?_eq_getElem hi)
 unfold cmF at this
 cases hk : isMo c[i].At <;> rw [hk] at this
 ·cases this
 exact of_decide_eq_true hk
theorem cm_pw {c : List TCame} (h : CmOK c) : c.Pairwise fun p x => p.At ≤ x.At := by
 have hs : ∀ i : Nat, ∀ (h1 : i + 1 < c.length), (c[i]'(by omega)).At ≤ c[i + 1].At := by
  intro i h1
  have := h.2 (i + 1) c[i + 1] (List.getElem?_eq_getElem h1)
  unfold cmF at this
  rw [if_neg (by omega), Nat.add_sub_cancel, List.getElem?_eq_getElem (by omega)] at this
  simp only at this
  cases hk : isMo c[i + 1].At <;> rw [hk] at this
  ·cases this
  cases ht : isKey c[i + 1].Singer <;> rw [ht] at this
  ·cases this
  cases ho : decide (cmpC (c[i]'(by omega)) c[i + 1] ≥ 0) <;> rw [ho] at this
  ·exact cmpC_at (of_decide_eq_false ho)
  ·cases this
 have key : ∀ (n i : Nat) (hi : i + n + 1 < c.length), (c[i]'(by omega)).At ≤ c[i + n + 1].At := by
  intro n
  induction n with
  | zero => intro i hi; exact hs i hi
  | succ n ih => intro i hi; exact Int.le_trans (ih i (by omega)) (hs (i + n + 1) (by omega))
 rw [List.pairwise_iff_getElem]
 intro i j hi hj hij
 have := key (j - i - 1) i (by omega)
 have e : i + (j - i - 1) + 1 = j := by omega
 simp only [e] at this
 exact this
def thB (c : List TCame) (s : ByteArray) (t : Int) : Bool := c.foldl (fun b x => if x.Singer = s ∧ x.At ≤ t then !x.Left else b) false
theorem thB_snoc (c : List TCame) (x : TCame) (s : ByteArray) (t : Int) : thB (c ++ [x]) s t = if x.Singer = s ∧ x.At ≤ t then !x.Left else thB c s t := by
 unfold thB; rw [List.foldl_append]; rfl
def opB (o : Option Int) (t : Int) : Bool := match o with | some f => decide (f ≤ t) | none => false
theorem opB_some (f t : Int) : opB (some f) t = decide (f ≤ t) := rfl
theorem opB_none (t : Int) : opB none t = false := rfl
structure PIv (p : List TCame) (s : ByteArray) (o : Option Int) (W : List TWindow) : Prop where
 len : W.length ≤ p.length
 pw : W.Pairwise fun a b => a.To ≤ b.From
 ok : ∀ w ∈ W, 0 ≤ w.From ∧ w.From < w.To ∧ w.To ≤ 345686399999
 up : ∀ n, (∀ y ∈ p, y.At ≤ n) → ∀ w ∈ W, w.To ≤ n
 op : ∀ f, o = some f → (0 ≤ f ∧ f ≤ 345686399999) ∧ (∀ w ∈ W, w.To ≤ f) ∧ ∀ n, (∀ y ∈ p, y.At ≤ n) → f ≤ n
 cov : ∀ t, thB p s t = (covW W t || opB o t)
theorem PIv.nil (s : ByteArray) : PIv [] s none [] := ⟨Nat.le_refl _, List.Pairwise.nil, (fun _ h => by cases h), (fun _ _ _ h => by cases h), (fun _ h => by cases h), fun _ => rfl⟩
def stpO (o : Option Int) (x : TCame) : Option Int := match x.Left, o with | false, none => some x.At | true, some _ => none | _, _ => o
def stpW (o : Option Int) (W : List TWindow) (x : TCame) : List TWindow := match x.Left, o with | true, some f => if f < x.At then W ++ [⟨f, x.At⟩] else W | _, _ => W
theorem PIv.other {p : List TCame} {s : ByteArray} {o : Option Int} {W : List TWindow} (h : PIv p s o W) {x : TCame} (hx : x.Singer ≠ s) : PIv (p ++ [x]) s o W :=
 ⟨by rw [List.length_append]; have := h.len; omega, h.pw, h.ok, fun n hn => h.up n fun y hy => hn y (List.mem_append_left _ hy), fun f hf => ⟨(h.op f hf).1, (h.op f hf).2.1, fun n hn => (h.op f hf).2.2 n fun y hy => hn y (List.mem_append_left _ hy)⟩,
  fun t => by rw [thB_snoc, if_neg (fun g => hx g.1)]; exact h.cov t⟩
theorem cov_out {W : List TWindow} {t : Int} (h : ∀ w ∈ W, w.To ≤ t) : covW W t = false := List.any_eq_false.2 fun w hw g => by
 have := h w hw
 have := hasW_iff.1 g
 omega
theorem cov_snoc (W : List TWindow) (w : TWindow) (t : Int) : covW (W ++ [w]) t = (covW W t || hasW w t) := by unfold covW; rw [List.any_append]; simp
theorem PIv.step {p : List TCame} {s : ByteArray} {o : Option Int} {W : List TWindow} (h : PIv p s o W) {x : TCame} (hx : x.Singer = s) (hp : ∀ y ∈ p, y.At ≤ x.At) (hat : 0 ≤ x.At ∧ x.At ≤ 345686399999) : PIv (p ++ [x]) s (stpO o x) (stpW o W x) := by
 have hxp : ∀ n, (∀ y ∈ p ++ [x], y.At ≤ n) → x.At ≤ n := fun n hn => hn x (by simp)
 have hpl : ∀ n, (∀ y ∈ p ++ [x], y.At ≤ n) → ∀ y ∈ p, y.At ≤ n := fun n hn y hy => hn y (List.mem_append_left _ hy)
 have hup := h.up x.At hp
 unfold stpO stpW
 cases hl : x.Left with
 | false =>
  cases o with
  | none =>
   show PIv (p ++ [x]) s (some x.At) W
   refine ⟨by rw [List.length_append]; have := h.len; omega, h.pw, h.ok, fun n hn => h.up n (hpl n hn), fun f hf => ?_, fun t => ?_⟩
   ·cases hf; exact ⟨hat, hup, hxp⟩
   ·rw [thB_snoc, hl, h.cov]
    simp only [opB_some, opB_none]
    by_cases ht : x.At ≤ t
    ·rw [if_pos ⟨hx, ht⟩, decide_eq_true ht]; simp
    ·rw [if_neg (fun g => ht g.2), decide_eq_false ht]
  | some f =>
   have hf := h.op f rfl
   show PIv (p ++ [x]) s (some f) W
   refine ⟨by rw [List.length_append]; have := h.len; omega, h.pw, h.ok, fun n hn => h.up n (hpl n hn), fun g hg => ⟨(h.op g hg).1, (h.op g hg).2.1, fun n hn => (h.op g hg).2.2 n (hpl n hn)⟩, fun t => ?_⟩
   rw [thB_snoc, hl, h.cov]
   by_cases ht : x.At ≤ t
   ·rw [if_pos ⟨hx, ht⟩]
    simp only [opB_some, opB_none]
    rw [decide_eq_true (show f ≤ t by have := hf.2.2 x.At hp; omega)]; simp
   ·rw [if_neg (fun g => ht g.2)]
 | true =>
  cases o with
  | none =>
   show PIv (p ++ [x]) s none W
   refine ⟨by rw [List.length_append]; have := h.len; omega, h.pw, h.ok, fun n hn => h.up n (hpl n hn), (fun g hg => by cases hg), fun t => ?_⟩
   rw [thB_snoc, hl, h.cov]
   by_cases ht : x.At ≤ t
   ·rw [if_pos ⟨hx, ht⟩, cov_out (fun w hw => by have := hup w hw; omega)]; rfl
   ·rw [if_neg (fun g => ht g.2)]
  | some f =>
   have hf := h.op f rfl
   have hfx := hf.2.2 x.At hp
   simp only
   by_cases hlt : f < x.At
   ·rw [if_pos hlt]
    refine ⟨by rw [List.length_append, List.length_append, List.length_singleton, List.length_singleton]; have := h.len; omega, ?_, fun w hw => ?_, fun n hn w hw => ?_, (fun g hg => by cases hg), fun t => ?_⟩
    ·exact List.pairwise_append.2 ⟨h.pw, List.pairwise_singleton _ _, fun a ha b hb => by rw [List.mem_singleton.1 hb]; exact hf.2.1 a ha⟩
    ·rcases List.mem_append.1 hw with hw | hw
     ·exact h.ok w hw
     ·rw [List.mem_singleton.1 hw]; exact ⟨hf.1.1, hlt, hat.2⟩
    ·rcases List.mem_append.1 hw with hw | hw
     ·exact h.up n (hpl n hn) w hw
     ·rw [List.mem_singleton.1 hw]; exact hxp n hn
    ·rw [thB_snoc, hl, h.cov, cov_snoc]
     simp only [opB_some, opB_none]
     by_cases ht : x.At ≤ t
     ·rw [if_pos ⟨hx, ht⟩, cov_out (fun w hw => by have := hup w hw; omega), show hasW ⟨f, x.At⟩ t = false from Bool.eq_false_iff.2 fun g => by have := hasW_iff.1 g; simp only at this; omega]; rfl
     ·rw [if_neg (fun g => ht g.2)]
      have : hasW ⟨f, x.At⟩ t = decide (f ≤ t) := by
       rw [Bool.eq_iff_iff, hasW_iff, decide_eq_true_eq]
       simp only
       omega
      rw [this]; simp
   ·rw [if_neg hlt]
    refine ⟨by rw [List.length_append]; have := h.len; omega, h.pw, h.ok, fun n hn => h.up n (hpl n hn), (fun g hg => by cases hg), fun t => ?_⟩
    rw [thB_snoc, hl, h.cov]
    simp only [opB_some, opB_none]
    by_cases ht : x.At ≤ t
    ·rw [if_pos ⟨hx, ht⟩, cov_out (fun w hw => by have := hup w hw; omega)]; rfl
    ·rw [if_neg (fun g => ht g.2), decide_eq_false (show ¬ f ≤ t by omega)]
theorem lkM_del {K V : Type} [DecidableEq K] (L : List (K × V)) (k s : K) : lkM (delM L k) s = if s = k then none else lkM L s := by
 unfold lkM delM
 induction L with
 | nil => simp
 | cons q L ih =>
  by_cases hq : q.1 = k
  ·rw [List.filter_cons_of_neg (by simp [hq]), ih, List.find?_cons]
   by_cases hs : s = k
   ·rw [if_pos hs, if_pos hs]
   ·rw [if_neg hs, if_neg hs, decide_eq_false (show ¬ q.1 = s from fun e => hs (e.symm.trans hq))]
  ·rw [List.filter_cons_of_pos (by simp [hq]), List.find?_cons, List.find?_cons]
   by_cases hqs : q.1 = s
   ·rw [decide_eq_true hqs]
    rw [if_neg (fun e => hq (hqs.trans e))]
   ·rw [decide_eq_false hqs]
    exact ih
theorem keys_del {K V : Type} [DecidableEq K] (L : List (K × V)) (k : K) (h : (L.map Prod.fst).Nodup) : ((delM L k).map Prod.fst).Nodup := by
 unfold delM
 exact h.sublist ((List.filter_sublist).map _)
theorem lkM_in {K V : Type} [DecidableEq K] {L : List (K × V)} {k : K} {v : V} (h : lkM L k = some v) : (k, v) ∈ L := by
 unfold lkM at h
 cases hf : L.find? (fun p => decide (p.1 = k)) with
 | none => rw [hf] at h; cases h
 | some q =>
  rw [hf] at h
  cases h
  have h1 := List.mem_of_find?_eq_some hf
  have h2 : q.1 = k := by simpa using List.find?_some hf
  subst h2
  exact h1
theorem perm_lk {K V : Type} [DecidableEq K] {A B : List (K × V)} (hA : (A.map Prod.fst).Nodup) (hB : (B.map Prod.fst).Nodup) (h : ∀ s, lkM A s = lkM B s) : A.Perm B := by
 have nd : ∀ {C : List (K × V)}, (C.map Prod.fst).Nodup → C.Nodup := fun {C} hC => by
  rw [List.nodup_iff_pairwise_ne] at hC ⊢
  rw [List.pairwise_map] at hC
  exact hC.imp fun hab e => hab (by rw [e])
 refine (List.perm_ext_iff_of_nodup (nd hA) (nd hB)).2 fun p => ⟨fun hp => ?_, fun hp => ?_⟩
 ·have := lkM_mem hA hp
  rw [h] at this
  exact lkM_in this
 ·have := lkM_mem hB hp
  rw [← h] at this
  exact lkM_in this
theorem lk_perm {K V : Type} [DecidableEq K] {A B : List (K × V)} (hA : (A.map Prod.fst).Nodup) (h : A.Perm B) (s : K) : lkM A s = lkM B s := by
 have hB : (B.map Prod.fst).Nodup := (h.map Prod.fst).nodup_iff.1 hA
 cases ha : lkM A s with
 | some v => exact (lkM_mem hB (h.subset (lkM_in ha))).symm
 | none =>
  cases hb : lkM B s with
  | none => rfl
  | some v =>
   have := lkM_mem hA (h.symm.subset (lkM_in hb))
   rw [ha] at this; cases this
abbrev Since := List (ByteArray × Int)
abbrev Rows := List (ByteArray × List TWindow)
theorem pres_l1 (x : TCame) (i : Nat) (a : Since) (b : Rows) (hb : ((lkM b x.Singer).getD []).length ≤ 1000000) : ∃ a' b', m_rehearse_presences_l1 i x (a, b) = some (.nxt (a', b')) ∧ ((a.map Prod.fst).Nodup → (a'.map Prod.fst).Nodup) ∧ ((b.map Prod.fst).Nodup → (b'.map Prod.fst).Nodup) ∧
  (lkM a' x.Singer = stpO (lkM a x.Singer) x ∧ (lkM b' x.Singer).getD [] = stpW (lkM a x.Singer) ((lkM b x.Singer).getD []) x) ∧ ∀ s, s ≠ x.Singer → lkM a' s = lkM a s ∧ (lkM b' s).getD [] = (lkM b s).getD [] := by
 unfold m_rehearse_presences_l1 stpO stpW
 simp only
 rw [hasM_lk]
 cases hl : x.Left with
 | false =>
  simp only [Bool.not_false, ifB_true, Option.bind_some, fin_inl]
  cases ho : lkM a x.Singer with
  | none =>
   refine ⟨putM a x.Singer x.At, b, rfl, fun h => keys_put _ _ _ h, id, ⟨by rw [lkM_put, if_pos rfl], rfl⟩, fun s hs => ⟨by rw [lkM_put, if_neg hs], rfl⟩⟩
  | some f => exact ⟨a, b, rfl, id, id, ⟨ho, rfl⟩, fun s hs => ⟨rfl, rfl⟩⟩
 | true =>
  simp only [Bool.not_true, ifB_false, Option.bind_some, fin_inl, ifB_true]
  cases ho : lkM a x.Singer with
  | none => exact ⟨a, b, rfl, id, id, ⟨ho, rfl⟩, fun s hs => ⟨rfl, rfl⟩⟩
  | some f =>
   simp only [Option.isSome_some, ifB_true, Option.getD_some]
   by_cases hlt : f < x.At
   ·rw [decide_eq_true hlt, ifB_true, appM_of (by rw [List.length_singleton]; omega) (by omega), Option.bind_some, if_pos hlt]
    exact ⟨_, _, rfl, fun h => keys_del _ _ h, fun h => keys_put _ _ _ h, ⟨by rw [lkM_del, if_pos rfl], by rw [lkM_put, if_pos rfl]; rfl⟩, fun s hs => ⟨by rw [lkM_del, if_neg hs], by rw [lkM_put, if_neg hs]⟩⟩
   ·rw [decide_eq_false hlt, ifB_false, if_neg hlt]
    exact ⟨_, _, rfl, fun h => keys_del _ _ h, id, ⟨by rw [lkM_del, if_pos rfl], rfl⟩, fun s hs => ⟨by rw [lkM_del, if_neg hs], rfl⟩⟩
def opW (o : Option Int) : List TWindow := match o with | some f => [⟨f, 345686400000⟩] | none => []
theorem lkM_cons {K V : Type} [DecidableEq K] (q : K × V) (t : List (K × V)) (s : K) : lkM (q :: t) s = if s = q.1 then some q.2 else lkM t s := by
 unfold lkM
 rw [List.find?_cons]
 by_cases e : s = q.1
 ·rw [if_pos e, decide_eq_true e.symm]; rfl
 ·rw [if_neg e, decide_eq_false (fun g => e g.symm)]
theorem pres_l2 : ∀ (t : Since) (i : Nat) (b1 : Rows), (t.map Prod.fst).Nodup → (b1.map Prod.fst).Nodup → (∀ s ∈ t.map Prod.fst, ((lkM b1 s).getD []).length ≤ 1000000) → ∃ b', rangeM m_rehearse_presences_l2 i t b1 = some (.brk b') ∧ (b'.map Prod.fst).Nodup ∧ ∀ s, lkM b' s = match lkM t s with | some f => some ((lkM b1 s).getD [] ++ [⟨f, 345686400000⟩]) | none => lkM b1 s := by
 intro t'
 induction t' with
 | nil => intro i b1 _ hb1 _; exact ⟨b1, rfl, hb1, fun s => rfl⟩
 | cons q' t' ih' =>
  intro i b1 ht1 hb1 hl1
  rw [List.map_cons, List.nodup_cons] at ht1
  have hst' : m_rehearse_presences_l2 i q' b1 = some (.nxt (putM b1 q'.1 ((lkM b1 q'.1).getD [] ++ [⟨q'.2, 345686400000⟩]))) := by
   unfold m_rehearse_presences_l2
   rw [appM_of (by have := hl1 q'.1 (by simp); rw [List.length_singleton]; omega) (by omega)]; rfl
  rw [rangeM_cons, hst', Option.bind_some, run_nxt]
  obtain ⟨b', h1, h2, h3⟩ := ih' (i + 1) (putM b1 q'.1 ((lkM b1 q'.1).getD [] ++ [⟨q'.2, 345686400000⟩])) ht1.2 (keys_put _ _ _ hb1) (fun s hs => by
   rw [lkM_put, if_neg (fun e : s = q'.1 => ht1.1 (by rw [← e]; exact hs))]
   exact hl1 s (List.mem_cons_of_mem _ hs))
  refine ⟨b', h1, h2, fun s => ?_⟩
  rw [h3, lkM_put, lkM_cons]
  by_cases e : s = q'.1
  ·rw [if_pos e, if_pos e]
   have hn : lkM t' s = none := by
    cases h : lkM t' s with
    | none => rfl
    | some v => exact absurd (List.mem_map.2 ⟨_, lkM_in h, e⟩) ht1.1
   rw [hn, e]
  ·rw [if_neg e, if_neg e]
structure Pres (c : List TCame) (P : Rows) : Prop where
 nd : (P.map Prod.fst).Nodup
 sep : ∀ s, SepW ((lkM P s).getD []) ∧ ((lkM P s).getD []).length ≤ 6000
 cov : ∀ s t, t < 345686400000 → covW ((lkM P s).getD []) t = thB c s t
theorem full_rise {p : List TCame} {s : ByteArray} {o : Option Int} {W : List TWindow} (h : PIv p s o W) : RiseW (W ++ opW o) ∧ ∀ t, t < 345686400000 → covW (W ++ opW o) t = thB p s t := by
 constructor
 ·constructor
  ·refine List.pairwise_append.2 ⟨h.pw.imp_of_mem fun ha hb hab => by have := h.ok _ ha; omega, ?_, fun a ha b hb => ?_⟩
   ·unfold opW; cases o <;> simp
   ·cases o with
    | none => cases hb
    | some f =>
     rw [List.mem_singleton.1 hb]
     have h1 := (h.op f rfl).2.1 a ha
     have h2 := h.ok a ha
     simp only; omega
  ·intro w hw
   rcases List.mem_append.1 hw with hw | hw
   ·have := h.ok w hw; unfold EndI; omega
   ·cases o with
    | none => cases hw
    | some f =>
     rw [List.mem_singleton.1 hw]
     have h1 := (h.op f rfl).1
     unfold EndI; simp only; omega
 ·intro t ht
  rw [h.cov]
  unfold covW
  rw [List.any_append]
  congr 1
  cases o with
  | none => rfl
  | some f =>
   unfold opW opB
   simp only [List.any_cons, List.any_nil, Bool.or_false]
   rw [Bool.eq_iff_iff, hasW_iff, decide_eq_true_eq]
   simp only
   omega
theorem presences_spec {c : List TCame} (hc : CmOK c) : ∃ P, m_rehearse_presences c = some (canonM P) ∧ Pres c P := by
 have hl := hc.1
 have hpw := List.pairwise_iff_getElem.1 (cm_pw hc)
 unfold m_rehearse_presences
 obtain ⟨⟨a, b⟩, h1, h2, h3, h4⟩ := rangeM_invx m_rehearse_presences_l1 c (fun n u => (u.1.map Prod.fst).Nodup ∧ (u.2.map Prod.fst).Nodup ∧ ∀ s, PIv (c.take n) s (lkM u.1 s) ((lkM u.2 s).getD [])) (by
  rintro i x ⟨a, b⟩ hx ⟨g1, g2, g3⟩
  have hi := (List.getElem?_eq_some_iff.1 hx).1
  have hxe : c[i] = x := (List.getElem?_eq_some_iff.1 hx).2
  simp only at g1 g2 g3
  have hbl : ((lkM b x.Singer).getD []).length ≤ 1000000 := by
   have := (g3 x.Singer).len
   rw [List.length_take] at this
   omega
  obtain ⟨a', b', k1, k2, k3, k4, k5⟩ := pres_l1 x i a b hbl
  refine ⟨(a', b'), k1, k2 g1, k3 g2, fun s => ?_⟩
  have htk : c.take (i + 1) = c.take i ++ [x] := by rw [List.take_add_one, hx]; rfl
  simp only
  rw [htk]
  by_cases e : x.Singer = s
  ·subst e
   rw [k4.1, k4.2]
   refine (g3 x.Singer).step rfl (fun y hy => ?_) (cm_at hc (List.mem_of_getElem? hx))
   obtain ⟨j, hj, rfl⟩ := List.getElem_of_mem hy
   rw [List.length_take] at hj
   rw [List.getElem_take, ← hxe]
   exact hpw j i (by omega) hi (by omega)
  ·have := k5 s (fun g => e g.symm)
   rw [this.1, this.2]
   exact (g3 s).other e) ([], []) ⟨List.nodup_nil, List.nodup_nil, fun s => PIv.nil s⟩
 rw [List.take_length] at h4
 simp only at h2 h3 h4
 rw [h1, Option.bind_some, fin_brk]
 simp only
 have hrow : ∀ s, ((lkM b s).getD []).length ≤ 5000 := fun s => Nat.le_trans (h4 s).len hl
 have hrun : ∀ L : Since, L.Perm a → ∃ b', rangeM m_rehearse_presences_l2 0 L b = some (.brk b') ∧ (b'.map Prod.fst).Nodup ∧ ∀ s, lkM b' s = match lkM a s with | some f => some ((lkM b s).getD [] ++ [⟨f, 345686400000⟩]) | none => lkM b s := by
  intro L hL
  obtain ⟨b', k1, k2, k3⟩ := pres_l2 L 0 b ((hL.map Prod.fst).nodup_iff.2 h2) h3 (fun s _ => by have := hrow s; omega)
  exact ⟨b', k1, k2, fun s => by rw [k3, lk_perm ((hL.map Prod.fst).nodup_iff.2 h2) hL]⟩
 obtain ⟨b0, r1, r2, r3⟩ := hrun a (List.Perm.refl _)
 have hr3 : ∀ s, (lkM b0 s).getD [] = (lkM b s).getD [] ++ opW (lkM a s) := fun s => by
  rw [r3]
  cases lkM a s with
  | none => simp [opW]
  | some f => rfl
 have hlen0 : ∀ s, ((lkM b0 s).getD []).length ≤ 5001 := fun s => by
  rw [hr3, List.length_append]
  have h5 := hrow s
  have h6 : (opW (lkM a s)).length ≤ 1 := by unfold opW; cases lkM a s <;> simp
  omega
 have hjoin : ∀ s, (lkM (b0.map fun p => (p.1, joinF p.2)) s).getD [] = joinF ((lkM b s).getD [] ++ opW (lkM a s)) := fun s => by
  rw [lkM_map, ← hr3]
  cases lkM b0 s <;> rfl
 refine ⟨b0.map fun p => (p.1, joinF p.2), anyOrd_of fun L hL => ?_, ?_, ?_, ?_⟩
 ·obtain ⟨b', k1, k2, k3⟩ := hrun L hL
  rw [k1, Option.bind_some, fin_brk]
  have hp : b'.Perm b0 := perm_lk k2 r2 fun s => by rw [k3, r3]
  refine anyOrd_of fun L' hL' => ?_
  rw [putAll joinF [] m_rehearse_presences_l3 b' k2 (fun i k u hk e => ?_) L' hL', Option.bind_some, fin_brk, canonM_congr (hp.map _)]
  unfold m_rehearse_presences_l3
  rw [e, joined_spec _ (by rw [lk_perm k2 hp]; have := hlen0 k; omega)]; rfl
 ·rw [List.map_map]; exact r2
 ·intro s
  rw [hjoin]
  refine ⟨(joinF_spec _ (full_rise (h4 s)).1).1, ?_⟩
  have h7 := joinF_len ((lkM b s).getD [] ++ opW (lkM a s))
  have h8 := hlen0 s
  rw [hr3] at h8
  omega
 ·intro s t ht
  rw [hjoin, (joinF_spec _ (full_rise (h4 s)).1).2, (full_rise (h4 s)).2 t ht]
theorem Pres.perm {c : List TCame} {P q : Rows} (h : Pres c P) (hq : q.Perm (canonM P)) : Pres c q := by
 have hp : q.Perm P := hq.trans (canonM_perm P)
 have hn : (q.map Prod.fst).Nodup := (hp.map Prod.fst).nodup_iff.2 h.nd
 exact ⟨hn, fun s => by rw [lk_perm hn hp]; exact h.sep s, fun s t ht => by rw [lk_perm hn hp]; exact h.cov s t ht⟩
def sameP (l : List ByteArray) (k : ByteArray) : Bool := l.any fun z => sameB k z
theorem Contains_s (l : List ByteArray) (k : ByteArray) : m_slices_Contains_string_string l k = some (sameP l k) := by
 unfold m_slices_Contains_string_string m_slices_Index_string_string sameP
 obtain ⟨j, h1, h2⟩ := index_dec (m_slices_Index_string_string_l1 k) (fun z => sameB k z) (fun i o => by
  unfold m_slices_Index_string_string_l1
  show ifB (sameB k o) _ _ = _
  cases sameB k o <;> rfl) l
 rw [h1, Option.bind_some, h2]
def askB (s : TSlot) (x : TSings) : Bool := sameB s.Piece x.Piece && (decide (s.Parts.length = 0) || sameP s.Parts x.Part)
def askW (x : TSings) (a : Int) (s : TSlot) : Option TWindow := if askB s x = true ∧ s.Time.From < a then some ⟨s.Time.From, min s.Time.To a⟩ else none
structure SlR (l : List TSlot) : Prop where
 len : l.length ≤ 300
 pw : l.Pairwise fun a b => a.Time.From ≤ b.Time.From
 ok : ∀ s ∈ l, isT s.Time = true
def asB (l : List TSlot) (x : TSings) (t : Int) : Bool := l.any fun s => askB s x && hasW s.Time t
def rehN (l : List TSlot) (c : List TCame) (x : TSings) (a : Int) : Int := cntW (fun t => (decide (t < a) && asB l x t) && thB c x.Singer t) 0 EndI
theorem sl_rise {l : List TSlot} (hl : l.length ≤ 300) (h1 : ∀ (i : Nat) x, l[i]? = some x → sF l i x = 0) : SlR l := by
 refine ⟨hl, ?_, fun s hs => ?_⟩
 ·have hs : ∀ i : Nat, ∀ (h : i + 1 < l.length), (l[i]'(by omega)).Time.From ≤ l[i + 1].Time.From := by
   intro i hi
   have := h1 (i + 1) l[i + 1] (List.getElem?_eq_getElem hi)
   unfold sF at this
   obtain ⟨-, this⟩ := cF' this (by decide)
   obtain ⟨-, this⟩ := cF' this (by decide)
   obtain ⟨-, this⟩ := cF' this (by decide)
   have : (if i + 1 = 0 then false else match l[i + 1 - 1]? with | some p => ordS p l[i + 1] | none => false) = false := by
    cases hr : (risF l[i + 1].Parts != 0) with
    | true =>
     rw [hr] at this
     have hz : risF l[i + 1].Parts = 0 := this
     rw [hz] at hr; cases hr
    | false =>
     rw [hr] at this
     have this : (bif !isT l[i + 1].Time then 1 else bif (if i + 1 = 0 then false else match l[i + 1 - 1]? with | some p => ordS p l[i + 1] | none => false) then 7 else 0 : Int) = 0 := this
     obtain ⟨-, this⟩ := cF' this (by decide)
     obtain ⟨this, -⟩ := cF' this (by decide)
     exact this
   rw [if_neg (by omega), Nat.add_sub_cancel, List.getElem?_eq_getElem (by omega)] at this
   unfold ordS at this
   rw [Bool.or_eq_false_iff, decide_eq_false_iff_not] at this
   omega
  have key : ∀ (n i : Nat) (hi : i + n + 1 < l.length), (l[i]'(by omega)).Time.From ≤ l[i + n + 1].Time.From := by
   intro n
   induction n with
   | zero => intro i hi; exact hs i hi
   | succ n ih => intro i hi; exact Int.le_trans (ih i (by omega)) (hs (i + n + 1) (by omega))
  rw [List.pairwise_iff_getElem]
  intro i j hi hj hij
  have := key (j - i - 1) i (by omega)
  have e : i + (j - i - 1) + 1 = j := by omega
  simp only [e] at this
  exact this
 ·obtain ⟨i, hi, rfl⟩ := List.getElem_of_mem hs
  exact (sF_zero (h1 i l[i] (List.getElem?_eq_getElem hi))).time
end Go.G
