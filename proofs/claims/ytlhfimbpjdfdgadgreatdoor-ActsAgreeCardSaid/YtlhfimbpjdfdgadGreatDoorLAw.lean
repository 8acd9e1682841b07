/- LAw: acts are written. In plain Lean, no program in sight. -/
import Derived.Test.YtlhfimbpjdfdgadGreatDoorLAt
import Derived.Test.YtlhfimbpjdfdgadGreatDoorLT5r
namespace Go.G
open Go Go.J
set_option linter.unusedSimpArgs false
set_option linter.unusedVariables false
def kwB (k : Int) : BL := if k = 1 then joinW else if k = 2 then quitW else if k = 3 then payW else if k = 4 then putW else if k = 5 then voteW else if k = 6 then endW else undoW
def bs (a : ByteArray) : BL := a.data.toList
def restL (x : TAct) : List BL := if x.Kind = 1 then [bs x.Who, Lib.itoa x.Cents] else if x.Kind = 2 then [bs x.Who] else if x.Kind = 3 then [bs x.Who, Lib.itoa x.Cents] else if x.Kind = 4 then [bs x.Motion] else if x.Kind = 5 then [bs x.Who, bs x.Motion, if x.Yes then yesW else noW] else if x.Kind = 6 then [bs x.Motion] else [bs x.Of, Lib.itoa x.Other]
def actW (x : TAct) : List BL := [bs x.Site, Lib.itoa x.No, Lib.itoa x.At, kwB x.Kind] ++ restL x
def lineA (x : TAct) : BL := jn 32 (actW x) ++ [10]
structure ActSz (x : TAct) : Prop where
 site : (bs x.Site).length ≤ 40
 who : (bs x.Who).length ≤ 40
 mot : (bs x.Motion).length ≤ 40
 of_ : (bs x.Of).length ≤ 40
 no : -9223372036854775808 ≤ x.No ∧ x.No ≤ 9223372036854775807
 at_ : -9223372036854775808 ≤ x.At ∧ x.At ≤ 9223372036854775807
 cts : -9223372036854775808 ≤ x.Cents ∧ x.Cents ≤ 9223372036854775807
 oth : -9223372036854775808 ≤ x.Other ∧ x.Other ≤ 9223372036854775807
 kind : x.Kind = 1 ∨ x.Kind = 2 ∨ x.Kind = 3 ∨ x.Kind = 4 ∨ x.Kind = 5 ∨ x.Kind = 6 ∨ x.Kind = 7
theorem isKey_len {s : ByteArray} (h : isKey s = true) : (bs s).length ≤ 40 := by
 unfold isKey at h
 simp only [Bool.and_eq_true, decide_eq_true_eq] at h
 unfold bs
 rw [← size_data]; omega
theorem isE_len {s : ByteArray} (h : isE s = true) : (bs s).length ≤ 40 := by rw [isE_iff] at h; subst h; decide
theorem cF {b : Bool} {a c : Int} (h : (bif b then a else c) = 0) (ha : a ≠ 0) : b = false ∧ c = 0 := by cases b <;> simp_all
theorem actSz {x : TAct} (h : actF x = 0) : ActSz x := by
 obtain ⟨q1, q2, q3, q4⟩ := actF_rng h
 unfold actF at h
 obtain ⟨-, h⟩ := cF h (by decide)
 obtain ⟨-, h⟩ := cF h (by decide)
 obtain ⟨-, h⟩ := cF h (by decide)
 obtain ⟨h1, h⟩ := cF h (by decide)
 obtain ⟨h2, h⟩ := cF h (by decide)
 obtain ⟨h3, -⟩ := cF h (by decide)
 simp only [Bool.or_eq_false_iff, Bool.and_eq_false_iff, Bool.not_eq_false'] at h1 h2 h3
 have key : ∀ {b : Bool} {s : ByteArray}, (b = false ∨ isKey s = true) → ((!b) = false ∨ isE s = true) → (bs s).length ≤ 40 := fun {b s} p q => by
  cases b with
  | false => exact isE_len (q.resolve_left (by simp))
  | true => exact isKey_len (p.resolve_left (by simp))
 have num : ∀ {b : Bool} {n lo hi : Int}, 0 ≤ lo → hi ≤ 1000000000 → (b = false ∨ inR n lo hi = true) → ((!b) = false ∨ (n != 0) = false) → -9223372036854775808 ≤ n ∧ n ≤ 9223372036854775807 := fun {b n lo hi} g1 g2 p q => by
  cases b with
  | false =>
   have := q.resolve_left (by simp)
   simp at this
   omega
  | true =>
   have := p.resolve_left (by simp)
   simp [inR] at this
   omega
 obtain ⟨⟨⟨⟨w1, w2⟩, w3⟩, w4⟩, w5⟩ := h3
 refine ⟨isKey_len q1, ?_, ?_, ?_, by omega, by omega, ?_, ?_, by omega⟩
 ·exact key h1.1.1 (by simpa using w1)
 ·exact key h1.1.2 (by simpa using w2)
 ·exact key h1.2 (by
   rcases w5 with g | g
   ·exact .inl (by simpa using g)
   ·exact .inr (by simpa using g.1))
 ·exact num (by cases x.Kind == 3 <;> decide) (by decide) h2.1 (by simpa using w3)
 ·exact num (b := x.Kind == 7) (by decide) (by decide) h2.2 (by
   rcases w5 with g | g
   ·exact .inl (by simpa using g)
   ·exact .inr g.2)
theorem kwB_len (k : Int) : (kwB k).length ≤ 4 := by
 unfold kwB
 repeat' split
 all_goals decide
theorem app16 {xs ys : List ByteArray} (h : xs.length + ys.length ≤ 100) : appM 16 xs ys = some (xs ++ ys) := appM_of (by omega) (by omega)
theorem lineA_len {x : TAct} (h : ActSz x) : (lineA x).length ≤ 250 := by
 have h1 := h.site; have h2 := h.who; have h3 := h.mot; have h4 := h.of_
 have h5 := itoa_len h.no; have h6 := itoa_len h.at_; have h7 := itoa_len h.cts; have h8 := itoa_len h.oth
 have h9 := kwB_len x.Kind
 have hy : yesW.length = 3 := rfl
 have hn : noW.length = 2 := rfl
 unfold lineA actW restL
 repeat' split
 all_goals
  simp only [List.cons_append, List.nil_append, jn, List.length_append, List.length_cons, List.length_nil]
  omega
theorem actText_spec {x : TAct} (h : ActSz x) : m_club_actText x = some (toB (lineA x)) := by
 have hl := lineA_len h
 unfold m_club_actText
 rw [Itoa_is h.no, Option.bind_some, Itoa_is h.at_, Option.bind_some, kindWords_is, Option.bind_some, Itoa_is h.cts, Itoa_is h.oth]
 have hk := h.kind
 have fin : ∀ (L : List ByteArray), L.length ≤ 100 → L.map (·.data.toList) = actW x → m_kit_Join L = some (toB (lineA x)) := fun L h1 h2 => by
  unfold lineA at hl ⊢
  rw [List.length_append] at hl
  rw [kitJoin_spec L (by omega) (by rw [h2]; omega), h2]
 rcases hk with e | e | e | e | e | e | e
 ·have hu : m_club_usesOf x.Kind = some ⟨true, false, true, false, false⟩ := by rw [usesOf_spec, e]; rfl
  rw [hu, e, show getI KWs 1 = some (toB joinW) from rfl, Option.bind_some, Option.bind_some]
  simp only [ifB_true, ifB_false, Option.bind_some, fin_inl]
  repeat rw [app16 (by simp), Option.bind_some, Option.bind_some, fin_inl]
  rw [fin _ (by simp) (by simp [actW, restL, e, kwB, bs, data_toB])]; rfl
 ·have hu : m_club_usesOf x.Kind = some ⟨true, false, false, false, false⟩ := by rw [usesOf_spec, e]; rfl
  rw [hu, e, show getI KWs 2 = some (toB quitW) from rfl, Option.bind_some, Option.bind_some]
  simp only [ifB_true, ifB_false, Option.bind_some, fin_inl]
  repeat rw [app16 (by simp), Option.bind_some, Option.bind_some, fin_inl]
  rw [fin _ (by simp) (by simp [actW, restL, e, kwB, bs, data_toB])]; rfl
 ·have hu : m_club_usesOf x.Kind = some ⟨true, false, true, false, false⟩ := by rw [usesOf_spec, e]; rfl
  rw [hu, e, show getI KWs 3 = some (toB payW) from rfl, Option.bind_some, Option.bind_some]
  simp only [ifB_true, ifB_false, Option.bind_some, fin_inl]
  repeat rw [app16 (by simp), Option.bind_some, Option.bind_some, fin_inl]
  rw [fin _ (by simp) (by simp [actW, restL, e, kwB, bs, data_toB])]; rfl
 ·have hu : m_club_usesOf x.Kind = some ⟨false, true, false, false, false⟩ := by rw [usesOf_spec, e]; rfl
  rw [hu, e, show getI KWs 4 = some (toB putW) from rfl, Option.bind_some, Option.bind_some]
  simp only [ifB_true, ifB_false, Option.bind_some, fin_inl]
  repeat rw [app16 (by simp), Option.bind_some, Option.bind_some, fin_inl]
  rw [fin _ (by simp) (by simp [actW, restL, e, kwB, bs, data_toB])]; rfl
 ·have hu : m_club_usesOf x.Kind = some ⟨true, true, false, true, false⟩ := by rw [usesOf_spec, e]; rfl
  rw [hu, e, show getI KWs 5 = some (toB voteW) from rfl, Option.bind_some, Option.bind_some]
  have hy : m_club_yesWord x.Yes = some (toB (if x.Yes = true then yesW else noW)) := by cases x.Yes <;> rfl
  simp only [ifB_true, ifB_false, Option.bind_some, fin_inl, hy]
  repeat rw [app16 (by simp), Option.bind_some, Option.bind_some, fin_inl]
  rw [fin _ (by simp) (by simp [actW, restL, e, kwB, bs, data_toB])]; rfl
 ·have hu : m_club_usesOf x.Kind = some ⟨false, true, false, false, false⟩ := by rw [usesOf_spec, e]; rfl
  rw [hu, e, show getI KWs 6 = some (toB endW) from rfl, Option.bind_some, Option.bind_some]
  simp only [ifB_true, ifB_false, Option.bind_some, fin_inl]
  repeat rw [app16 (by simp), Option.bind_some, Option.bind_some, fin_inl]
  rw [fin _ (by simp) (by simp [actW, restL, e, kwB, bs, data_toB])]; rfl
 ·have hu : m_club_usesOf x.Kind = some ⟨false, false, false, false, true⟩ := by rw [usesOf_spec, e]; rfl
  rw [hu, e, show getI KWs 7 = some (toB undoW) from rfl, Option.bind_some, Option.bind_some]
  simp only [ifB_true, ifB_false, Option.bind_some, fin_inl]
  repeat rw [app16 (by simp), Option.bind_some]
  rw [fin _ (by simp) (by simp [actW, restL, e, kwB, bs, data_toB])]; rfl
end Go.G
