/- LAz: acts that are written are read back. In plain Lean, no program in sight. -/
import Derived.Test.YtlhfimbpjdfdgadGreatDoorLAv
import Derived.Test.YtlhfimbpjdfdgadGreatDoorLTn
namespace Go.G
open Go Go.J
set_option linter.unusedSimpArgs false
set_option linter.unusedVariables false
theorem keyB_no {b : UInt8} (h : b ∈ keyB.data.toList) : b ≠ 32 ∧ b ≠ 10 ∧ b ≠ 44 := by
 refine ⟨?_, ?_, ?_⟩ <;> rintro rfl <;> exact absurd h (by decide)
theorem key_word {s : ByteArray} (h : isKey s = true) : bs s ≠ [] ∧ (32 : UInt8) ∉ bs s ∧ (10 : UInt8) ∉ bs s ∧ (44 : UInt8) ∉ bs s := by
 unfold isKey at h
 simp only [Bool.and_eq_true, decide_eq_true_eq, List.all_eq_true] at h
 obtain ⟨⟨⟨h1, -⟩, -⟩, h2⟩ := h
 refine ⟨fun e => ?_, fun g => (keyB_no (h2 _ g)).1 rfl, fun g => (keyB_no (h2 _ g)).2.1 rfl, fun g => (keyB_no (h2 _ g)).2.2 rfl⟩
 have : (bs s).length = s.size := (size_data s).symm
 rw [e] at this
 simp at this; omega
def wd (w : BL) : Prop := w ≠ [] ∧ (32 : UInt8) ∉ w ∧ (10 : UInt8) ∉ w
theorem wd_key {s : ByteArray} (h : isKey s = true) : wd (bs s) := ⟨(key_word h).1, (key_word h).2.1, (key_word h).2.2.1⟩
theorem wd_num {n : Int} (h : 0 ≤ n) : wd (Lib.itoa n) := ⟨(itoa_nat_digits h).2, itoa_no h (by decide), itoa_no h (by decide)⟩
theorem toB_bs (s : ByteArray) : toB (bs s) = s := toB_data s
structure ActGood (x : TAct) : Prop where
 site : isKey x.Site = true
 no : 1 ≤ x.No ∧ x.No ≤ 1000000
 at_ : 0 ≤ x.At ∧ x.At ≤ 345686399999
 kind : x.Kind = 1 ∨ x.Kind = 2 ∨ x.Kind = 3 ∨ x.Kind = 4 ∨ x.Kind = 5 ∨ x.Kind = 6 ∨ x.Kind = 7
 who : useWho x.Kind = true → isKey x.Who = true
 mot : useMot x.Kind = true → isKey x.Motion = true
 of_ : x.Kind = 7 → isKey x.Of = true
 cts : useCts x.Kind = true → 0 ≤ x.Cents ∧ x.Cents ≤ 1000000000
 oth : x.Kind = 7 → 1 ≤ x.Other ∧ x.Other ≤ 1000000
 who0 : useWho x.Kind = false → x.Who = E0
 mot0 : useMot x.Kind = false → x.Motion = E0
 cts0 : useCts x.Kind = false → x.Cents = 0
 yes0 : x.Kind ≠ 5 → x.Yes = false
 of0 : x.Kind ≠ 7 → x.Of = E0 ∧ x.Other = 0
theorem actGood {x : TAct} (h : actF x = 0) : ActGood x := by
 obtain ⟨q1, q2, q3, q4⟩ := actF_rng h
 unfold actF at h
 obtain ⟨-, h⟩ := cF h (by decide)
 obtain ⟨-, h⟩ := cF h (by decide)
 obtain ⟨-, h⟩ := cF h (by decide)
 obtain ⟨h1, h⟩ := cF h (by decide)
 obtain ⟨h2, h⟩ := cF h (by decide)
 obtain ⟨h3, -⟩ := cF h (by decide)
 simp only [Bool.or_eq_false_iff, Bool.and_eq_false_iff, Bool.not_eq_false'] at h1 h2 h3
 obtain ⟨⟨a1, a2⟩, a3⟩ := h1
 obtain ⟨b1, b2⟩ := h2
 obtain ⟨⟨⟨⟨w1, w2⟩, w3⟩, w4⟩, w5⟩ := h3
 refine ⟨q1, q2, q3, by omega, fun g => ?_, fun g => ?_, fun g => ?_, fun g => ?_, fun g => ?_, fun g => ?_, fun g => ?_, fun g => ?_, fun g => ?_, fun g => ?_⟩
 ·rw [g] at a1; exact a1.resolve_left (by decide)
 ·rw [g] at a2; exact a2.resolve_left (by decide)
 ·rw [g] at a3; exact a3.resolve_left (by decide)
 ·rw [g] at b1
  have := b1.resolve_left (by decide)
  unfold inR at this
  have := of_decide_eq_true this
  revert this
  cases x.Kind == 3 <;> simp <;> omega
 ·rw [g] at b2
  have := b2.resolve_left (by decide)
  unfold inR at this
  exact of_decide_eq_true this
 ·rw [g] at w1; exact (isE_iff _).1 (w1.resolve_left (by decide))
 ·rw [g] at w2; exact (isE_iff _).1 (w2.resolve_left (by decide))
 ·rw [g] at w3; simpa using w3.resolve_left (by decide)
 ·have e : (x.Kind == 5) = false := by simpa using g
  rw [e] at w4; exact w4.resolve_left (by decide)
 ·have e : (x.Kind == 7) = false := by simpa using g
  rw [e] at w5
  have := w5.resolve_left (by decide)
  exact ⟨(isE_iff _).1 this.1, by simpa using this.2⟩
theorem kwB_wd (k : Int) : wd (kwB k) := by
 unfold kwB
 repeat' split
 all_goals exact ⟨by decide, by decide, by decide⟩
theorem actW_wd {x : TAct} (h : ActGood x) : ∀ w ∈ actW x, wd w := by
 intro w hw
 unfold actW at hw
 rcases List.mem_append.1 hw with g | g
 ·simp only [List.mem_cons, List.not_mem_nil, or_false] at g
  rcases g with rfl | rfl | rfl | rfl
  ·exact wd_key h.site
  ·exact wd_num (by have := h.no; omega)
  ·exact wd_num (by have := h.at_; omega)
  ·exact kwB_wd _
 ·unfold restL at g
  have hy : ∀ b : Bool, wd (if b = true then yesW else noW) := fun b => by cases b <;> exact ⟨by decide, by decide, by decide⟩
  rcases h.kind with e | e | e | e | e | e | e
  ·rw [e] at g
   simp only [show ((1 : Int) = 1) = True from by simp, if_true, if_false, List.mem_cons, List.not_mem_nil, or_false] at g
   rcases g with rfl | rfl
   ·exact wd_key (h.who (by rw [e]; rfl))
   ·exact wd_num (h.cts (by rw [e]; rfl)).1
  ·rw [e] at g
   simp only [show ((2 : Int) = 1) = False from by simp, show ((2 : Int) = 2) = True from by simp, if_true, if_false, List.mem_cons, List.not_mem_nil, or_false] at g
   subst g
   exact wd_key (h.who (by rw [e]; rfl))
  ·rw [e] at g
   simp only [show ((3 : Int) = 1) = False from by simp, show ((3 : Int) = 2) = False from by simp, show ((3 : Int) = 3) = True from by simp, if_true, if_false, List.mem_cons, List.not_mem_nil, or_false] at g
   rcases g with rfl | rfl
   ·exact wd_key (h.who (by rw [e]; rfl))
   ·exact wd_num (h.cts (by rw [e]; rfl)).1
  ·rw [e] at g
   simp only [show ((4 : Int) = 1) = False from by simp, show ((4 : Int) = 2) = False from by simp, show ((4 : Int) = 3) = False from by simp, show ((4 : Int) = 4) = True from by simp, if_true, if_false, List.mem_cons, List.not_mem_nil, or_false] at g
   subst g
   exact wd_key (h.mot (by rw [e]; rfl))
  ·rw [e] at g
   simp only [show ((5 : Int) = 1) = False from by simp, show ((5 : Int) = 2) = False from by simp, show ((5 : Int) = 3) = False from by simp, show ((5 : Int) = 4) = False from by simp, show ((5 : Int) = 5) = True from by simp, if_true, if_false, List.mem_cons, List.not_mem_nil, or_false] at g
   rcases g with rfl | rfl | rfl
   ·exact wd_key (h.who (by rw [e]; rfl))
   ·exact wd_key (h.mot (by rw [e]; rfl))
   ·exact hy _
  ·rw [e] at g
   simp only [show ((6 : Int) = 1) = False from by simp, show ((6 : Int) = 2) = False from by simp, show ((6 : Int) = 3) = False from by simp, show ((6 : Int) = 4) = False from by simp, show ((6 : Int) = 5) = False from by simp, show ((6 : Int) = 6) = True from by simp, if_true, if_false, List.mem_cons, List.not_mem_nil, or_false] at g
   subst g
   exact wd_key (h.mot (by rw [e]; rfl))
  ·rw [e] at g
   simp only [show ((7 : Int) = 1) = False from by simp, show ((7 : Int) = 2) = False from by simp, show ((7 : Int) = 3) = False from by simp, show ((7 : Int) = 4) = False from by simp, show ((7 : Int) = 5) = False from by simp, show ((7 : Int) = 6) = False from by simp, if_true, if_false, List.mem_cons, List.not_mem_nil, or_false] at g
   rcases g with rfl | rfl
   ·exact wd_key (h.of_ e)
   ·exact wd_num (by have := h.oth e; omega)
theorem idx_kw {k : Int} (h : k = 1 ∨ k = 2 ∨ k = 3 ∨ k = 4 ∨ k = 5 ∨ k = 6 ∨ k = 7) : idxN (toB (kwB k)) = k.toNat := by
 rcases h with rfl | rfl | rfl | rfl | rfl | rfl | rfl <;> rfl
theorem actL_line {x : TAct} (hx : actF x = 0) : actL (jn 32 (actW x)) = some x := by
 have h := actGood hx
 have hw := actW_wd h
 have es : spl 32 (jn 32 (actW x)) = actW x := spl_jn 32 (actW x) (by simp [actW]) fun w g => (hw w g).2.1
 unfold actL
 rw [es, if_neg (fun g => (hw [] g).1 rfl)]
 have n1 := numB_itoa (n := x.No) (by have := h.no; omega) (by have := h.no; omega)
 have n2 := numB_itoa (n := x.At) (by have := h.at_; omega) (by have := h.at_; omega)
 have n3 : useCts x.Kind = true → numB (toB (Lib.itoa x.Cents)) = some x.Cents := fun g => numB_itoa (by have := h.cts g; omega) (by have := h.cts g; omega)
 have n4 : x.Kind = 7 → numB (toB (Lib.itoa x.Other)) = some x.Other := fun g => numB_itoa (by have := h.oth g; omega) (by have := h.oth g; omega)
 have hk := idx_kw h.kind
 have w0 := h.who0; have m0 := h.mot0; have c0 := h.cts0; have y0 := h.yes0; have o0 := h.of0; have hkk := h.kind
 clear h hw es
 obtain ⟨s, n, a, k, w, m, c, y, o, z⟩ := x
 simp only at n1 n2 n3 n4 hk w0 m0 c0 y0 o0 hkk
 unfold actW
 simp only [List.cons_append, List.nil_append, List.map_cons, toB_bs]
 unfold wordsF
 simp only [n1, n2]
 rw [hk]
 unfold restL
 rcases hkk with rfl | rfl | rfl | rfl | rfl | rfl | rfl
 ·rw [m0 rfl, y0 (by decide), (o0 (by decide)).1, (o0 (by decide)).2]
  show (numB (toB (Lib.itoa c))).map _ = _
  rw [n3 rfl, toB_bs]; rfl
 ·rw [m0 rfl, c0 rfl, y0 (by decide), (o0 (by decide)).1, (o0 (by decide)).2]
  show some _ = _
  rw [toB_bs]
 ·rw [m0 rfl, y0 (by decide), (o0 (by decide)).1, (o0 (by decide)).2]
  show (numB (toB (Lib.itoa c))).map _ = _
  rw [n3 rfl, toB_bs]; rfl
 ·rw [w0 rfl, c0 rfl, y0 (by decide), (o0 (by decide)).1, (o0 (by decide)).2]
  show some _ = _
  rw [toB_bs]
 ·rw [c0 rfl, (o0 (by decide)).1, (o0 (by decide)).2]
  cases y with
  | true =>
   show some _ = _
   rw [toB_bs, toB_bs]
  | false =>
   show some _ = _
   rw [toB_bs, toB_bs]
 ·rw [w0 rfl, c0 rfl, y0 (by decide), (o0 (by decide)).1, (o0 (by decide)).2]
  show some _ = _
  rw [toB_bs]
 ·rw [w0 rfl, m0 rfl, c0 rfl, y0 (by decide)]
  show (numB (toB (Lib.itoa z))).map _ = _
  rw [n4 rfl, toB_bs]; rfl
theorem line_no10 {x : TAct} (hx : actF x = 0) : (10 : UInt8) ∉ jn 32 (actW x) := by
 have hw := actW_wd (actGood hx)
 have key : ∀ (L : List BL), (∀ w ∈ L, wd w) → (10 : UInt8) ∉ jn 32 L := by
  intro L
  induction L with
  | nil => intro _ h; cases h
  | cons w t ih =>
   intro hL h
   cases t with
   | nil => exact (hL w (List.mem_cons_self ..)).2.2 h
   | cons v t =>
    have h' : (10 : UInt8) ∈ w ++ 32 :: jn 32 (v :: t) := h
    rcases List.mem_append.1 h' with g | g
    ·exact (hL w (List.mem_cons_self ..)).2.2 g
    ·rcases List.mem_cons.1 g with g | g
     ·exact absurd g (by decide)
     ·exact ih (fun y hy => hL y (List.mem_cons_of_mem _ hy)) g
 exact key _ hw
theorem lines_of {P : List BL} (h : ∀ x ∈ P, (10 : UInt8) ∉ x) : linesOf (P.flatMap fun x => x ++ [10]) = P ∧ leftOf (P.flatMap fun x => x ++ [10]) = [] := by
 have e : ∀ (P : List BL), (P.flatMap fun x => x ++ [10]) = jn 10 (P ++ [[]]) := by
  intro P
  induction P with
  | nil => rfl
  | cons x t ih => rw [List.flatMap_cons, ih, List.cons_append, jn_line, List.append_assoc]; rfl
 have es : spl 10 (P.flatMap fun x => x ++ [10]) = P ++ [[]] := by
  rw [e]
  refine spl_jn 10 _ (by simp) fun x hx => ?_
  rcases List.mem_append.1 hx with g | g
  ·exact h x g
  ·rw [List.mem_singleton.1 g]; simp
 have e2 := lines_split (P.flatMap fun x => x ++ [10])
 rw [es] at e2
 have e3 := List.append_inj' e2 rfl
 exact ⟨e3.1.symm, (List.cons.inj e3.2).1.symm⟩
theorem rd_acts : ∀ (l : List TAct) (i : Nat) (u : List TAct), (∀ x ∈ l, actF x = 0) → rdL actsStep i (l.map fun x => jn 32 (actW x)) u = .inr (u ++ l) := by
 intro l
 induction l with
 | nil => intro i u _; simp [rdL]
 | cons x t ih =>
  intro i u h
  rw [List.map_cons, rdL]
  unfold actsStep
  rw [actL_line (h x (List.mem_cons_self ..))]
  simp only [Option.map_some]
  show rdL actsStep (i + 1) _ _ = _
  rw [ih (i + 1) (u ++ [x]) fun y hy => h y (List.mem_cons_of_mem _ hy), List.append_assoc]; rfl
theorem read_back {l : List TAct} (h : ActsOK l) (hl : l.length ≤ 700) : readA (toB (l.flatMap lineA)) = (l, 0, 0) := by
 have hs := flat_len fun x hx => actSz (h.ok x hx)
 have e : l.flatMap lineA = (l.map fun x => jn 32 (actW x)).flatMap fun x => x ++ [10] := by rw [List.flatMap_map]; rfl
 have hL := lines_of (P := l.map fun x => jn 32 (actW x)) (fun y hy => by
  obtain ⟨x, hx, rfl⟩ := List.mem_map.1 hy
  exact line_no10 (h.ok x hx))
 unfold readA
 rw [if_neg (by rw [toB_size]; omega), data_toB, e, hL.1, hL.2, rd_acts l 0 [] h.ok]
 simp only [List.nil_append, if_true]
 rw [(actsF_zero l).2 h]; rfl
end Go.G
