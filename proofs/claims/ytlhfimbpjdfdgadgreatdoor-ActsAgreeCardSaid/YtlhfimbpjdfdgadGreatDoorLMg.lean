/- LMg: the order of acts. In plain Lean, no program in sight. -/
import Derived.Test.YtlhfimbpjdfdgadGreatDoorLY2
import Derived.Test.YtlhfimbpjdfdgadGreatDoorLS2
namespace Go.G
open Go Go.J
set_option linter.unusedSimpArgs false
set_option linter.unusedVariables false
def RA (a b : TAct) : Prop := a.At < b.At ∨ (a.At = b.At ∧ (bytesOf a.Site < bytesOf b.Site ∨ (a.Site = b.Site ∧ a.No < b.No)))
theorem cmpA_lt (a b : TAct) : cmpA a b < 0 ↔ RA a b := by
 unfold cmpA RA
 by_cases h1 : a.At = b.At
 ·rw [cI_zero.2 h1, show ((0 : Int) != 0) = false from rfl, cond_false]
  have e1 : ¬ a.At < b.At := by omega
  by_cases h2 : a.Site = b.Site
  ·rw [cmpS_zero.2 h2, show ((0 : Int) != 0) = false from rfl, cond_false, cI_neg]
   constructor
   ·exact fun h => .inr ⟨h1, .inr ⟨h2, h⟩⟩
   ·rintro (h | ⟨-, h | ⟨-, h⟩⟩)
    ·exact (e1 h).elim
    ·rw [h2] at h; exact (bs_irr _ h).elim
    ·exact h
  ·have hne : cmpS a.Site b.Site ≠ 0 := fun e => h2 (cmpS_zero.1 e)
   rw [show (cmpS a.Site b.Site != 0) = true from bne_iff_ne.2 hne, cond_true]
   unfold cmpS
   rcases cb_spec (bytesOf a.Site) (bytesOf b.Site) with ⟨g1, g2⟩ | ⟨g1, g2⟩ | ⟨g1, g2⟩
   ·rw [g1]
    exact ⟨fun _ => .inr ⟨h1, .inl g2⟩, fun _ => by decide⟩
   ·exact (h2 (bytes_inj' g2)).elim
   ·rw [g1]
    constructor
    ·intro h; exact absurd h (by decide)
    ·rintro (h | ⟨-, h | ⟨h, -⟩⟩)
     ·exact (e1 h).elim
     ·exact (bs_asym h g2).elim
     ·exact (h2 h).elim
 ·have hne : cI a.At b.At ≠ 0 := fun e => h1 (cI_zero.1 e)
  rw [show (cI a.At b.At != 0) = true from bne_iff_ne.2 hne, cond_true, cI_neg]
  exact ⟨fun h => .inl h, fun h => h.resolve_right fun g => h1 g.1⟩
theorem RA_trans (a b c : TAct) (h1 : RA a b) (h2 : RA b c) : RA a c := by
 unfold RA at *
 rcases h1 with h1 | ⟨h1, g1⟩
 ·rcases h2 with h2 | ⟨h2, -⟩
  ·exact .inl (by omega)
  ·exact .inl (by omega)
 ·rcases h2 with h2 | ⟨h2, g2⟩
  ·exact .inl (by omega)
  ·refine .inr ⟨by omega, ?_⟩
   rcases g1 with g1 | ⟨g1, k1⟩
   ·rcases g2 with g2 | ⟨g2, -⟩
    ·exact .inl (bs_trans g1 g2)
    ·exact .inl (g2 ▸ g1)
   ·rcases g2 with g2 | ⟨g2, k2⟩
    ·exact .inl (g1 ▸ g2)
    ·exact .inr ⟨g1.trans g2, by omega⟩
theorem RA_irr (a : TAct) : ¬ RA a a := by
 unfold RA
 rintro (h | ⟨-, h | ⟨-, h⟩⟩)
 ·omega
 ·exact bs_irr _ h
 ·omega
theorem RA_tri (a b : TAct) (h : own a ≠ own b) : RA a b ∨ RA b a := by
 unfold RA
 by_cases h1 : a.At = b.At
 ·rcases bs_tri (bytesOf a.Site) (bytesOf b.Site) with g | g | g
  ·exact .inl (.inr ⟨h1, .inl g⟩)
  ·have e := bytes_inj' g
   have hn : a.No ≠ b.No := fun e2 => h (by unfold own; rw [e, e2])
   rcases Int.lt_or_gt_of_ne hn with q | q
   ·exact .inl (.inr ⟨h1, .inr ⟨e, q⟩⟩)
   ·exact .inr (.inr ⟨h1.symm, .inr ⟨e.symm, q⟩⟩)
  ·exact .inr (.inr ⟨h1.symm, .inl g⟩)
 ·rcases Int.lt_or_gt_of_ne h1 with q | q
  ·exact .inl (.inl q)
  ·exact .inr (.inl q)
theorem sorted_ext : ∀ (a b : List TAct), a.Pairwise RA → b.Pairwise RA → (∀ z, z ∈ a ↔ z ∈ b) → a = b := by
 intro a
 induction a with
 | nil =>
  intro b _ _ h
  cases b with
  | nil => rfl
  | cons y b => exact absurd ((h y).2 (List.mem_cons_self ..)) (by simp)
 | cons x a ih =>
  intro b ha hb h
  cases b with
  | nil => exact absurd ((h x).1 (List.mem_cons_self ..)) (by simp)
  | cons y b =>
   rw [List.pairwise_cons] at ha hb
   have hxy : x = y := by
    rcases List.mem_cons.1 ((h x).1 (List.mem_cons_self ..)) with g | g
    ·exact g
    ·rcases List.mem_cons.1 ((h y).2 (List.mem_cons_self ..)) with k | k
     ·exact k.symm
     ·exact (RA_irr x (RA_trans _ _ _ (ha.1 y k) (hb.1 x g))).elim
   subst hxy
   congr 1
   refine ih b ha.2 hb.2 fun z => ⟨fun hz => ?_, fun hz => ?_⟩
   ·rcases List.mem_cons.1 ((h z).1 (List.mem_cons_of_mem _ hz)) with g | g
    ·subst g; exact (RA_irr _ (ha.1 _ hz)).elim
    ·exact g
   ·rcases List.mem_cons.1 ((h z).2 (List.mem_cons_of_mem _ hz)) with g | g
    ·subst g; exact (RA_irr _ (hb.1 _ hz)).elim
    ·exact g
theorem ord_RA {l : List TAct} (h : ∀ (i : Nat) x y, l[i]? = some x → l[i + 1]? = some y → cmpA x y < 0) : l.Pairwise RA := by
 induction l with
 | nil => exact List.Pairwise.nil
 | cons x t ih =>
  have ht := ih fun i a b ha hb => h (i + 1) a b (by simpa using ha) (by simpa using hb)
  refine List.pairwise_cons.2 ⟨?_, ht⟩
  cases t with
  | nil => intro y hy; cases hy
  | cons y t =>
   have hxy : RA x y := (cmpA_lt x y).1 (h 0 x y rfl rfl)
   intro z hz
   rcases List.mem_cons.1 hz with rfl | hz
   ·exact hxy
   ·exact RA_trans _ _ _ hxy ((List.pairwise_cons.1 ht).1 z hz)
theorem RA_ord {l : List TAct} (h : l.Pairwise RA) : ∀ (i : Nat) x y, l[i]? = some x → l[i + 1]? = some y → cmpA x y < 0 := fun i x y hx hy => by
 obtain ⟨h1, rfl⟩ := List.getElem?_eq_some_iff.1 hx
 obtain ⟨h2, rfl⟩ := List.getElem?_eq_some_iff.1 hy
 exact (cmpA_lt _ _).2 (List.pairwise_iff_getElem.1 h i (i + 1) h1 h2 (by omega))
theorem ActsOK.sub {l p : List TAct} (h : ActsOK l) (hp : p.Sublist l) : ActsOK p :=
 ⟨Nat.le_trans hp.length_le h.len, fun x hx => h.ok x (hp.subset hx), RA_ord ((ord_RA h.ord).sublist hp), h.nd.sublist (hp.map own)⟩
def ltA (a b : TAct) : Bool := decide (cmpA a b < 0)
theorem ltA_iff {a b : TAct} : ltA a b = true ↔ RA a b := by unfold ltA; rw [decide_eq_true_eq]; exact cmpA_lt a b
theorem isA (u : List TAct) (hl : u.length ≤ 1000) (hnd : (u.map own).Nodup) : ∃ m, isM m_club_compare u 0 (u.length : Int) = some m ∧ m.Perm u ∧ m.Pairwise RA := by
 refine ⟨_, isM_ins ltA m_club_compare u (by omega) fun x _ y _ => ⟨_, compare_spec x y, rfl⟩, by simpa using fold_perm ltA u [], ?_⟩
 refine fold_sorted ltA RA_trans u [] List.Pairwise.nil (fun x _ y hy => by cases hy) ?_
 have h1 : u.Pairwise fun a b => own a ≠ own b := by rwa [List.Nodup, List.pairwise_map] at hnd
 exact h1.imp fun {a b} hab => ⟨ltA_iff, (RA_tri a b hab).symm⟩
end Go.G
