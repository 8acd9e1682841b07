/- Plain laws of the models; no condition beyond what each theorem says. -/
import Derived.Test.YtlhfimbpjdfdgacGreatDoorLT5
import Derived.Test.YtlhfimbpjdfdgacGreatDoorLU5
import Derived.Test.YtlhfimbpjdfdgacGreatDoorLU6r
namespace Go.G
open Go Go.J
set_option linter.unusedSimpArgs false
set_option linter.unusedVariables false
def bs (a : ByteArray) : BL := a.data.toList
theorem ba_bs (a : ByteArray) : a = toB (bs a) := (toB_data a).symm
def cut1 (c : UInt8) : BL → Option (BL × BL)
 | [] => none
 | b :: l => if b = c then some ([], l) else (cut1 c l).map fun q => (b :: q.1, q.2)
theorem cut1_none (c : UInt8) : ∀ (w : BL), cut1 c w = none → c ∉ w
 | [], _ => by simp
 | b :: l, h => by
  unfold cut1 at h
  by_cases hb : b = c
  ·rw [if_pos hb] at h; cases h
  ·rw [if_neg hb] at h
   have := cut1_none c l (Option.map_eq_none_iff.1 h)
   simp [this, Ne.symm hb]
theorem cut1_some (c : UInt8) : ∀ (w a r : BL), cut1 c w = some (a, r) → w = a ++ c :: r ∧ c ∉ a
 | [], a, r, h => by cases h
 | b :: l, a, r, h => by
  unfold cut1 at h
  by_cases hb : b = c
  ·rw [if_pos hb] at h
   cases h
   subst hb
   exact ⟨rfl, by simp⟩
  ·rw [if_neg hb] at h
   obtain ⟨⟨a', r'⟩, h1, h2⟩ := Option.map_eq_some_iff.1 h
   cases h2
   obtain ⟨g1, g2⟩ := cut1_some c l a' r' h1
   exact ⟨by rw [g1]; rfl, by simp [g2, Ne.symm hb]⟩
def three (c : UInt8) (w : BL) : List BL := match cut1 c w with
 | none => [w]
 | some (a, r) => match cut1 c r with
  | none => [a, r]
  | some (b, t) => [a, b, t]
theorem numB_facts {s : ByteArray} {n : Int} (hs : s.size ≤ 1000000) (h : numB s = some n) : inW n ∧ (47 : UInt8) ∉ s.data.toList := by
 obtain ⟨-, n', g1, g2⟩ := Number_spec s hs
 have e := g2 n h
 subst e
 rw [h] at g1
 obtain ⟨d, neg, hC, hT, hsd, hng⟩ := prefix_spec s
 have hds : d.size ≤ s.size := by
  rw [size_data, size_data, hsd]
  split
  ·simp
  ·exact Nat.le_refl _
 unfold m_gleeref2_Number at g1
 rw [show m_strings_TrimPrefix s (ByteArray.mk [45].toArray) = some d from hT, Option.bind_some] at g1
 by_cases h0 : (d.toList == ByteArray.empty.toList) = true
 ·rw [h0] at g1; simp at g1
 rw [Bool.eq_false_iff.2 h0, ifB_false] at g1
 by_cases h1 : (d.size : Int) > 15
 ·rw [decide_eq_true h1] at g1; simp at g1
 rw [decide_eq_false h1, ifB_false, show (ByteArray.mk [48, 49, 50, 51, 52, 53, 54, 55, 56, 57].toArray) = digB from rfl, only_spec d digB (by omega), Option.bind_some] at g1
 cases hA : d.data.toList.all fun b => decide (b ∈ digB.data.toList) with
 | false => rw [hA] at g1; simp at g1
 | true =>
  rw [hA] at g1
  simp only [Bool.not_true, Option.bind_some, fin_inl, ifB_false] at g1
  cases hAt : m_strconv_Atoi s with
  | none => rw [hAt] at g1; cases g1
  | some v =>
   rw [hAt, Option.bind_some] at g1
   cases hIt : m_strconv_Itoa v.1 with
   | none => rw [hIt] at g1; cases g1
   | some y =>
    rw [hIt, Option.bind_some] at g1
    have e1 : v.1 = n' := congrArg Prod.fst (Option.some.inj g1)
    refine ⟨?_, fun h47 => ?_⟩
    ·unfold m_strconv_Itoa at hIt
     unfold inW
     by_cases hr : -9223372036854775808 ≤ v.1 ∧ v.1 ≤ 9223372036854775807
     ·rw [← e1]; exact hr
     ·rw [if_neg hr] at hIt; cases hIt
    ·have hd : ∀ b ∈ d.data.toList, b ≠ 47 := fun b hb => by
      have := dig_mem b (List.all_eq_true.1 hA b hb)
      rintro rfl
      exact absurd this (by decide)
     rw [hsd] at h47
     split at h47
     ·rcases List.mem_cons.1 h47 with g | g
      ·exact absurd g (by decide)
      ·exact hd _ g rfl
     ·exact hd _ h47 rfl
def natB (w : BL) : Option Int := match numB (toB w) with
 | some n => if 0 ≤ n then some n else none
 | none => none
theorem natB_some {w : BL} {n : Int} (hw : w.length ≤ 1000000) (h : natB w = some n) : numB (toB w) = some n ∧ 0 ≤ n ∧ inW n ∧ (47 : UInt8) ∉ w := by
 unfold natB at h
 cases hn : numB (toB w) with
 | none => rw [hn] at h; cases h
 | some m =>
  rw [hn] at h
  simp only at h
  by_cases h0 : 0 ≤ m
  ·rw [if_pos h0] at h
   cases h
   have := numB_facts (s := toB w) (by rw [toB_size]; exact hw) hn
   exact ⟨rfl, h0, this.1, this.2⟩
  ·rw [if_neg h0] at h; cases h
theorem natural_spec (w : BL) (hw : w.length ≤ 1000000) : ∃ n', m_piece_natural (toB w) = some (n', (natB w).isSome) ∧ ∀ n, natB w = some n → n' = n := by
 unfold m_piece_natural natB
 rw [(Number_spec (toB w) (by rw [toB_size]; exact hw)).1, Option.bind_some]
 cases numB (toB w) with
 | none => exact ⟨_, rfl, fun n h => by cases h⟩
 | some m =>
  simp only [Option.getD_some, Option.isSome_some, ifB_true]
  by_cases h0 : 0 ≤ m
  ·rw [if_pos h0, decide_eq_true (show m ≥ 0 from h0)]
   exact ⟨_, rfl, fun n h => by cases h; rfl⟩
  ·rw [if_neg h0, decide_eq_false (show ¬ m ≥ 0 from h0)]
   exact ⟨_, rfl, fun n h => by cases h⟩
def lenL (b : BL) : Option (TFraction × Bool) :=
 let l := if b.getLast? = some 126 then b.dropLast else b
 match cut1 47 l with
 | none => none
 | some (p, q) => match natB p, natB q with
  | some n, some d => some (⟨n, d⟩, decide (b.getLast? = some 126))
  | _, _ => none
def noteL (a : BL) : Option Int := if a = [45] then some (-1) else natB a
def finT (a b t : BL) : Option TTone := match noteL a, lenL b with
 | some n, some (f, td) => some ⟨n, f, toB t, td⟩
 | _, _ => none
def toneL (w : BL) : Option TTone := match cut1 58 w with
 | none => none
 | some (a, r) => match cut1 58 r with
  | none => finT a r []
  | some (b, t) => if t = [] then none else finT a b t
theorem suffix_spec (b : BL) (hb : b.length ≤ 1000000) : m_strings_CutSuffix (toB b) (ByteArray.mk [126].toArray) = some (toB (if b.getLast? = some 126 then b.dropLast else b), decide (b.getLast? = some 126)) := by
 by_cases h : b.getLast? = some 126
 ·have e : b = b.dropLast ++ [126] := by
   obtain ⟨l, hl⟩ := List.getLast?_eq_some_iff.1 h
   rw [hl]; simp
  rw [if_pos h, decide_eq_true h]
  exact CutSuffix_hit (c := 126) (s := toB b) (a := b.dropLast) (by rw [data_toB]; exact e) (by rw [toB_size]; omega)
 ·rw [if_neg h, decide_eq_false h]
  exact CutSuffix_miss (c := 126) (s := toB b) (by rw [data_toB]; exact h) (by rw [toB_size]; omega)
theorem lenL_sz (b : BL) : (if b.getLast? = some 126 then b.dropLast else b).length ≤ b.length := by
 split
 ·rw [List.length_dropLast]; omega
 ·exact Nat.le_refl _
theorem dash_tl (t : BL) : ((toB t).toList == (ByteArray.mk [45].toArray).toList) = decide (t = [45]) := by
 rw [ba_tl, data_toB]
theorem progTail (a b t : BL) (ha : a.length ≤ 1000000) (hb : b.length ≤ 1000000) : ∃ y, ((m_strings_CutSuffix (toB b) (ByteArray.mk [126].toArray)).bind fun y7 => (m_strings_Cut y7.1 (ByteArray.mk [47].toArray)).bind fun y8 => (m_piece_natural y8.1).bind fun y9 => (m_piece_natural y8.2.1).bind fun y10 => (ifB (!((toB a).toList == (ByteArray.mk [45].toArray).toList)) ((m_piece_natural (toB a)).bind fun y15 => some (.inl (y15.2, y15.1))) (some (.inl (true, (-1)))) : Option ((Bool × Int) ⊕ (TTone × Bool))).bind fun k14 => Sum.fin k14 fun u12 => ifB y8.2.2 (ifB y9.2 (ifB y10.2 (some ((TTone.mk u12.2 (TFraction.mk y9.1 y10.1) (toB t) y7.2), u12.1)) (some ((TTone.mk u12.2 (TFraction.mk y9.1 y10.1) (toB t) y7.2), false))) (some ((TTone.mk u12.2 (TFraction.mk y9.1 y10.1) (toB t) y7.2), false))) (some ((TTone.mk u12.2 (TFraction.mk y9.1 y10.1) (toB t) y7.2), false))) = some (y, (finT a b t).isSome) ∧ ∀ z, finT a b t = some z → y = z := by
 have hl := lenL_sz b
 rw [suffix_spec b hb, Option.bind_some]
 unfold finT lenL
 simp only
 generalize (if b.getLast? = some 126 then b.dropLast else b) = l at hl
 generalize decide (b.getLast? = some 126) = td
 have hnote : ∃ n', (ifB (!((toB a).toList == (ByteArray.mk [45].toArray).toList)) ((m_piece_natural (toB a)).bind fun y15 => some (.inl (y15.2, y15.1))) (some (.inl (true, (-1)))) : Option ((Bool × Int) ⊕ (TTone × Bool))) = some (.inl ((noteL a).isSome, n')) ∧ ∀ n, noteL a = some n → n' = n := by
  rw [dash_tl]
  unfold noteL
  by_cases h : a = [45]
  ·rw [decide_eq_true h, if_pos h]
   exact ⟨-1, rfl, fun n h => by cases h; rfl⟩
  ·obtain ⟨n', g1, g2⟩ := natural_spec a ha
   rw [decide_eq_false h, if_neg h, Bool.not_false, ifB_true, g1]
   exact ⟨n', rfl, g2⟩
 obtain ⟨n', hn1, hn2⟩ := hnote
 rw [hn1]
 cases hc : cut1 47 l with
 | none =>
  have h47 := cut1_none 47 l hc
  obtain ⟨p', k1, -⟩ := natural_spec l (by omega)
  obtain ⟨q', k2, -⟩ := natural_spec [] (by decide)
  rw [show m_strings_Cut (toB l) (ByteArray.mk [47].toArray) = some (toB l, ByteArray.empty, false) from Cut_miss (c := 47) (s := toB l) h47, Option.bind_some]
  simp only
  rw [k1, Option.bind_some, show ByteArray.empty = toB [] from rfl, k2]
  simp only [Option.bind_some, fin_inl, ifB_false]
  cases noteL a <;> exact ⟨_, rfl, fun z hz => by cases hz⟩
 | some pq =>
  obtain ⟨p, q⟩ := pq
  obtain ⟨e1, e2⟩ := cut1_some 47 l p q hc
  have hlen : p.length + (q.length + 1) = l.length := by rw [e1]; simp
  obtain ⟨p', k1, k2⟩ := natural_spec p (by omega)
  obtain ⟨q', k3, k4⟩ := natural_spec q (by omega)
  rw [show m_strings_Cut (toB l) (ByteArray.mk [47].toArray) = some (toB p, toB q, true) from Cut_hit (c := 47) (s := toB l) (by rw [data_toB]; exact e1) e2 (by rw [toB_size]; omega), Option.bind_some]
  simp only
  rw [k1, Option.bind_some, k3]
  simp only [Option.bind_some, fin_inl, ifB_true]
  cases hp : natB p with
  | none => cases hna : noteL a <;> exact ⟨_, rfl, fun z hz => by cases hz⟩
  | some n =>
   cases hq : natB q with
   | none => cases hna : noteL a <;> exact ⟨_, rfl, fun z hz => by cases hz⟩
   | some d =>
    rw [k2 n hp, k4 d hq]
    cases hna : noteL a with
    | none => exact ⟨_, rfl, fun z hz => by cases hz⟩
    | some m =>
     rw [hn2 m hna]
     exact ⟨_, rfl, fun z hz => by cases hz; rfl⟩
theorem readTone_spec (w : BL) (hw : w.length ≤ 1000000) : ∃ y, m_piece_readTone (toB w) = some (y, (toneL w).isSome) ∧ ∀ z, toneL w = some z → y = z := by
 unfold m_piece_readTone toneL
 cases h1 : cut1 58 w with
 | none =>
  rw [show m_strings_Cut (toB w) (ByteArray.mk [58].toArray) = some (toB w, ByteArray.empty, false) from Cut_miss (c := 58) (s := toB w) (cut1_none 58 w h1), Option.bind_some]
  simp only
  rw [show m_strings_Cut ByteArray.empty (ByteArray.mk [58].toArray) = some (ByteArray.empty, ByteArray.empty, false) from Cut_miss (c := 58) (s := ByteArray.empty) (by decide), Option.bind_some]
  exact ⟨_, rfl, fun z hz => by cases hz⟩
 | some ar =>
  obtain ⟨a, r⟩ := ar
  obtain ⟨e1, e2⟩ := cut1_some 58 w a r h1
  have hlen : a.length + (r.length + 1) = w.length := by rw [e1]; simp
  rw [show m_strings_Cut (toB w) (ByteArray.mk [58].toArray) = some (toB a, toB r, true) from Cut_hit (c := 58) (s := toB w) (by rw [data_toB]; exact e1) e2 (by rw [toB_size]; omega), Option.bind_some]
  simp only
  cases h2 : cut1 58 r with
  | none =>
   rw [show m_strings_Cut (toB r) (ByteArray.mk [58].toArray) = some (toB r, ByteArray.empty, false) from Cut_miss (c := 58) (s := toB r) (cut1_none 58 r h2), Option.bind_some]
   simp only [Bool.not_true, ifB_false, Option.bind_some, fin_inl]
   obtain ⟨y, g1, g2⟩ := progTail a r [] (by omega) (by omega)
   exact ⟨y, g1, g2⟩
  | some bt =>
   obtain ⟨b, t⟩ := bt
   obtain ⟨f1, f2⟩ := cut1_some 58 r b t h2
   have hlen2 : b.length + (t.length + 1) = r.length := by rw [f1]; simp
   rw [show m_strings_Cut (toB r) (ByteArray.mk [58].toArray) = some (toB b, toB t, true) from Cut_hit (c := 58) (s := toB r) (by rw [data_toB]; exact f1) f2 (by rw [toB_size]; omega), Option.bind_some]
   simp only [Bool.not_true, ifB_false, ifB_true, Option.bind_some, fin_inl]
   rw [ba_nil, data_toB]
   by_cases ht : t = []
   ·rw [decide_eq_true ht, if_pos ht]
    exact ⟨_, rfl, fun z hz => by cases hz⟩
   ·rw [decide_eq_false ht, if_neg ht, ifB_false]
    obtain ⟨y, g1, g2⟩ := progTail a b t (by omega) (by omega)
    exact ⟨y, g1, g2⟩
end Go.G
namespace Go.G
open Go Go.J
set_option linter.unusedSimpArgs false
set_option linter.unusedVariables false
def zeroT : TTone := TTone.mk 0 (TFraction.mk 0 0) ByteArray.empty false
end Go.G
namespace Go.G
open Go Go.J
set_option linter.unusedSimpArgs false
set_option linter.unusedVariables false
def allT : List BL → Option (List TTone)
 | [] => some []
 | w :: t => match toneL w with
  | some z => (allT t).map (z :: ·)
  | none => none
theorem allT_cons (w : BL) (t : List BL) : allT (w :: t) = (match toneL w with
  | some z => (allT t).map (z :: ·)
  | none => none) := rfl
def lineT (x : BL) : Option (List TTone) := if 200000 < x.length then none else if [] ∈ spl 32 x then none else allT (spl 32 x)
theorem allT_len : ∀ (L : List BL) (ts : List TTone), allT L = some ts → ts.length = L.length
 | [], ts, h => by cases h; rfl
 | w :: t, ts, h => by
  rw [allT_cons] at h
  cases hw : toneL w with
  | none => rw [hw] at h; cases h
  | some z =>
   rw [hw] at h
   obtain ⟨r, h1, rfl⟩ := Option.map_eq_some_iff.1 h
   rw [List.length_cons, List.length_cons, allT_len t r h1]
theorem finT_ok {a b t : BL} {z : TTone} (hb : b.length ≤ 1000000) (ht : t.length ≤ 1000000) (h : finT a b t = some z) : TOk z := by
 unfold finT at h
 cases hn : noteL a with
 | none => rw [hn] at h; cases h
 | some n =>
  cases hl : lenL b with
  | none => rw [hn, hl] at h; cases h
  | some ft =>
   obtain ⟨f, td⟩ := ft
   rw [hn, hl] at h
   cases h
   have hlz := lenL_sz b
   unfold lenL at hl
   simp only at hl
   generalize (if b.getLast? = some 126 then b.dropLast else b) = l at hl hlz
   cases hc : cut1 47 l with
   | none => rw [hc] at hl; cases hl
   | some pq =>
    obtain ⟨p, q⟩ := pq
    obtain ⟨e1, e2⟩ := cut1_some 47 l p q hc
    have hlen : p.length + (q.length + 1) = l.length := by rw [e1]; simp
    rw [hc] at hl
    simp only at hl
    cases hp : natB p with
    | none => rw [hp] at hl; cases hl
    | some m =>
     cases hq : natB q with
     | none => rw [hp, hq] at hl; cases hl
     | some d =>
      rw [hp, hq] at hl
      cases hl
      exact ⟨(natB_some (by omega) hp).2.2.1, (natB_some (by omega) hq).2.2.1, by show (toB t).size ≤ 1000000; rw [toB_size]; exact ht⟩
theorem toneL_ok {w : BL} {z : TTone} (hw : w.length ≤ 1000000) (h : toneL w = some z) : TOk z := by
 unfold toneL at h
 cases h1 : cut1 58 w with
 | none => rw [h1] at h; cases h
 | some ar =>
  obtain ⟨a, r⟩ := ar
  obtain ⟨e1, e2⟩ := cut1_some 58 w a r h1
  have hlen : a.length + (r.length + 1) = w.length := by rw [e1]; simp
  rw [h1] at h
  simp only at h
  cases h2 : cut1 58 r with
  | none =>
   rw [h2] at h
   exact finT_ok (by omega) (by simp) h
  | some bt =>
   obtain ⟨b, t⟩ := bt
   obtain ⟨f1, f2⟩ := cut1_some 58 r b t h2
   have hlen2 : b.length + (t.length + 1) = r.length := by rw [f1]; simp
   rw [h2] at h
   simp only at h
   split at h
   ·cases h
   ·exact finT_ok (by omega) (by omega) h
theorem allT_ok : ∀ (L : List BL) (ts : List TTone), (∀ w ∈ L, w.length ≤ 1000000) → allT L = some ts → ∀ z ∈ ts, TOk z
 | [], ts, _, h => by cases h; intro z hz; cases hz
 | w :: t, ts, hL, h => by
  rw [allT_cons] at h
  cases hw : toneL w with
  | none => rw [hw] at h; cases h
  | some y =>
   rw [hw] at h
   obtain ⟨r, h1, rfl⟩ := Option.map_eq_some_iff.1 h
   intro z hz
   rcases List.mem_cons.1 hz with rfl | hz
   ·exact toneL_ok (hL w (List.mem_cons_self ..)) hw
   ·exact allT_ok t r (fun v hv => hL v (List.mem_cons_of_mem _ hv)) h1 z hz
theorem readL2 : ∀ (L : List BL) (i : Nat) (ok : Bool) (u : List TTone), (∀ w ∈ L, w.length ≤ 1000000) → (u.length + L.length ≤ 2000000000000) → ∃ b ys, rangeM m_piece_Read_l2 i (L.map toB) (ok, u) = some (.brk (b, u ++ ys)) ∧ b = (ok && (allT L).isSome) ∧ ∀ ts, allT L = some ts → ys = ts := by
 intro L
 induction L with
 | nil => intro i ok u _ _; exact ⟨ok, [], by rw [List.append_nil]; rfl, by simp [allT], fun ts h => by cases h; rfl⟩
 | cons w t ih =>
  intro i ok u hL hl
  simp only [List.length_cons] at hl
  obtain ⟨y, g1, g2⟩ := readTone_spec w (hL w (List.mem_cons_self ..))
  have hst : m_piece_Read_l2 i (toB w) (ok, u) = some (.nxt (ok && (toneL w).isSome, u ++ [y])) := by
   unfold m_piece_Read_l2
   rw [g1, Option.bind_some]
   have app : appM 48 u [y] = some (u ++ [y]) := appM_of (by simp; omega) (by omega)
   cases ok <;> simp only [ifB_true, ifB_false, Option.bind_some, fin_inl, app, Bool.true_and, Bool.false_and]
  obtain ⟨b, ys, k1, k2, k3⟩ := ih (i + 1) (ok && (toneL w).isSome) (u ++ [y]) (fun v hv => hL v (List.mem_cons_of_mem _ hv)) (by simp; omega)
  rw [List.map_cons, rangeM_cons, hst, Option.bind_some, run_nxt, k1]
  refine ⟨b, y :: ys, by simp, ?_, ?_⟩
  ·rw [k2, allT_cons]
   cases toneL w with
   | none => simp
   | some z => cases allT t <;> simp
  ·intro ts h
   rw [allT_cons] at h
   cases hw : toneL w with
   | none => rw [hw] at h; cases h
   | some z =>
    rw [hw] at h
    obtain ⟨r, h1, rfl⟩ := Option.map_eq_some_iff.1 h
    rw [g2 z hw, k3 r h1]
abbrev TS := (List TTone) × (List Int)
def toneF (_ : Nat) (s : TS) (x : BL) : Option TS := (lineT x).map fun ts => (s.1 ++ ts, s.2 ++ [(ts.length : Int)])
def toneG (_ : Nat) (s : List (List TTone)) (x : BL) : Option (List (List TTone)) := (lineT x).map fun ts => s ++ [ts]
def toneI (i : Nat) (s : TS) : Prop := s.1.length ≤ 200001 * i ∧ s.2.length ≤ i
def toneJ (i : Nat) (s : List (List TTone)) : Prop := s.length ≤ i
def asF (ls : List (List TTone)) : TS := (List.flatten ls, ls.map fun l => (l.length : Int))
theorem spl_lens {x : BL} (hx : x.length ≤ 200000) : (spl 32 x).length ≤ 200001 ∧ ∀ w ∈ spl 32 x, w.length ≤ 1000000 := by
 have := spl_len 32 x
 exact ⟨by omega, fun w hw => by have := spl_size hw; omega⟩
theorem lineT_len {x : BL} {ts : List TTone} (h : lineT x = some ts) : ts.length ≤ 200001 ∧ ∀ z ∈ ts, TOk z := by
 unfold lineT at h
 by_cases hx' : 200000 < x.length
 ·rw [if_pos hx'] at h; cases h
 have hx : x.length ≤ 200000 := by omega
 rw [if_neg hx'] at h
 split at h
 ·cases h
 ·exact ⟨by rw [allT_len _ _ h]; exact (spl_lens hx).1, allT_ok _ _ (spl_lens hx).2 h⟩
theorem kitWords_cases (x : BL) (hx : x.length ≤ 200000) : (m_kit_Words (toB x) = some ([], false) ∧ lineT x = none) ∨ (m_kit_Words (toB x) = some ((spl 32 x).map toB, true) ∧ lineT x = allT (spl 32 x)) := by
 have hw := kitWords_spec (toB x) (by rw [toB_size]; omega)
 rw [data_toB] at hw
 unfold lineT
 rw [if_neg (show ¬ 200000 < x.length by omega)]
 by_cases hn : [] ∈ spl 32 x
 ·rw [if_pos hn] at hw ⊢; exact .inl ⟨hw, rfl⟩
 ·rw [if_neg hn] at hw ⊢; exact .inr ⟨hw, rfl⟩
theorem Read_l1 (Ls : List ByteArray) (ended : Bool) (i : Nat) (s : TS) (x : BL) (hs : s.1.length ≤ 1000000000000 ∧ s.2.length ≤ 1000000) (hx : x.length ≤ 200000) (hLs : Ls.length ≤ 400000) (he : ended = false → i + 1 < Ls.length) :
  m_piece_Read_l1 (Ls, ended) i (toB x) s = some (match toneF i s x with | some z => .nxt z | none => .ret ([], (i : Int), 9)) := by
 obtain ⟨o, m⟩ := s
 simp only at hs
 unfold m_piece_Read_l1 toneF
 have appi : ∀ n : Int, appM 8 m [n] = some (m ++ [n]) := fun n => appM_of (by simp; omega) (by omega)
 rcases kitWords_cases x hx with ⟨h1, h2⟩ | ⟨h1, h2⟩
 ·rw [h1, h2]; rfl
 ·obtain ⟨b, ys, k1, k2, k3⟩ := readL2 (spl 32 x) 0 true o (spl_lens hx).2 (by have := (spl_lens hx).1; omega)
  rw [h1, h2, Option.bind_some]
  simp only
  rw [k1, Option.bind_some, fin_brk, k2]
  cases ha : allT (spl 32 x) with
  | none => rfl
  | some ts =>
   have hlen := allT_len _ _ ha
   rw [k3 ts ha]
   simp only [Option.isSome_some, Bool.and_self, Bool.not_true, ifB_false, Option.map_some, List.length_map, hlen]
   cases ended with
   | true => simp only [Bool.not_true, ifB_false, Option.bind_some, fin_inl, appi]
   | false =>
    have hne : ((i : Int) == (w64 ((Ls.length : Int) - 1))) = false := by
     rw [w64_id (by omega)]
     have := he rfl
     rw [beq_eq_false_iff_ne]; omega
    simp only [Bool.not_false, ifB_true, Option.bind_some, fin_inl, hne, ifB_false, appi]
theorem Read_last (Ls : List ByteArray) (i : Nat) (s : TS) (x : BL) (hs : s.1.length ≤ 1000000000000) (hx : x.length ≤ 200000) (hi : i + 1 = Ls.length) (hLs : Ls.length ≤ 400000) :
  m_piece_Read_l1 (Ls, false) i (toB x) s = some (.ret ([], (i : Int), 9)) := by
 obtain ⟨o, m⟩ := s
 simp only at hs
 unfold m_piece_Read_l1
 have hq : ((i : Int) == (w64 ((Ls.length : Int) - 1))) = true := by
  rw [w64_id (by omega), beq_iff_eq]; omega
 rcases kitWords_cases x hx with ⟨h1, h2⟩ | ⟨h1, h2⟩
 ·rw [h1]; rfl
 ·obtain ⟨b, ys, k1, k2, k3⟩ := readL2 (spl 32 x) 0 true o (spl_lens hx).2 (by have := (spl_lens hx).1; omega)
  rw [h1, Option.bind_some]
  simp only
  rw [k1, Option.bind_some, fin_brk]
  cases b
  ·simp only [Bool.not_false, ifB_true, Option.bind_some, fin_inl]
  ·simp only [Bool.not_true, Bool.not_false, ifB_false, ifB_true, Option.bind_some, fin_inl, hq]
theorem rd_two : ∀ (P : List BL) (i : Nat) (ls : List (List TTone)), rdL toneF i P (asF ls) = match rdL toneG i P ls with | .inl k => .inl k | .inr v => .inr (asF v) := by
 intro P
 induction P with
 | nil => intro i ls; rfl
 | cons x t ih =>
  intro i ls
  unfold rdL toneF toneG
  cases h : lineT x with
  | none => rfl
  | some ts =>
   simp only [Option.map_some]
   have : ((asF ls).1 ++ ts, (asF ls).2 ++ [(ts.length : Int)]) = asF (ls ++ [ts]) := by simp [asF]
   rw [this]
   exact ih (i + 1) (ls ++ [ts])
theorem toneF_I : ∀ i s x z, toneI i s → toneF i s x = some z → toneI (i + 1) z := by
 intro i s x z h1 h2
 unfold toneF at h2
 obtain ⟨ts, h3, rfl⟩ := Option.map_eq_some_iff.1 h2
 have := (lineT_len h3).1
 unfold toneI at *
 simp; omega
theorem rdG_ok : ∀ (P : List BL) (i : Nat) (ls v : List (List TTone)), (∀ x ∈ P, x.length ≤ 200000) → (∀ l ∈ ls, ∀ z ∈ l, TOk z) → rdL toneG i P ls = .inr v → v.length = ls.length + P.length ∧ ∀ l ∈ v, ∀ z ∈ l, TOk z := by
 intro P
 induction P with
 | nil => intro i ls v _ h hv; simp [rdL] at hv; subst hv; exact ⟨rfl, h⟩
 | cons x t ih =>
  intro i ls v hx h hv
  unfold rdL toneG at hv
  cases hl : lineT x with
  | none => rw [hl] at hv; cases hv
  | some ts =>
   rw [hl] at hv
   have hts := lineT_len hl
   have := ih (i + 1) (ls ++ [ts]) v (fun y hy => hx y (List.mem_cons_of_mem _ hy)) (fun l hl' => by
    rcases List.mem_append.1 hl' with g | g
    ·exact h l g
    ·rw [List.mem_singleton.1 g]; exact hts.2) hv
   refine ⟨by rw [this.1]; simp; omega, this.2⟩
end Go.G
namespace Go.G
open Go Go.J
set_option linter.unusedSimpArgs false
set_option linter.unusedVariables false
theorem rangeM_cg {α σ ρ : Type} {f g : Nat → α → σ → Option (Flow σ ρ)} {xs : List α} (h : ∀ (i : Nat) x s, xs[i]? = some x → f i x s = g i x s) (s : σ) : rangeM f 0 xs s = rangeM g 0 xs s := by
 have key : ∀ (t : List α) (i : Nat) (s : σ), xs.drop i = t → rangeM f i t s = rangeM g i t s := by
  intro t
  induction t with
  | nil => intro i s _; rfl
  | cons x t ih =>
   intro i s hd
   have hx : xs[i]? = some x := by
    have := congrArg (fun l => l[0]?) hd
    simpa using this
   have ht : xs.drop (i + 1) = t := by
    have := congrArg List.tail hd
    simpa [List.tail_drop] using this
   rw [rangeM_cons, rangeM_cons, h i x s hx]
   congr 1
   funext fl
   cases fl with
   | nxt s' => exact ih (i + 1) s' ht
   | brk s' => rfl
   | ret v => rfl
 exact key xs 0 s rfl
theorem fill_big (bars : List TBar) (t : List TTone) (h : 2000 < t.length) : m_piece_checkTones bars t false = some 2 ∧ m_gleeref2_fillFault bars t false = some 2 := by
 unfold m_piece_checkTones m_gleeref2_fillFault
 have h2 : (t.length : Int) > 2000 := by omega
 exact ⟨by simp [h2], by simp [h2]⟩
def toneW (x : TTone) : BL := (if x.Note = -1 then [45] else Lib.itoa x.Note) ++ 58 :: (Lib.itoa x.Long.Num ++ 47 :: Lib.itoa x.Long.Den) ++ (if x.Tied = true then [126] else []) ++ (if bs x.Text = [] then [] else 58 :: bs x.Text)
structure TSz (x : TTone) : Prop where
 note : -9223372036854775808 ≤ x.Note ∧ x.Note ≤ 9223372036854775807
 num : -9223372036854775808 ≤ x.Long.Num ∧ x.Long.Num ≤ 9223372036854775807
 den : -9223372036854775808 ≤ x.Long.Den ∧ x.Long.Den ≤ 9223372036854775807
 text : (bs x.Text).length ≤ 20
theorem TGood.sz {x : TTone} (h : TGood x) : TSz x := by
 obtain ⟨h1, h2, h3, h4, h5, h6, -⟩ := h
 have hd : x.Long.Den ≤ 192 := by
  have h5 : (192 : Int) = x.Long.Den * (192 : Int).tdiv x.Long.Den := by have := Int.mul_tdiv_add_tmod 192 x.Long.Den; omega
  have h6 : 0 ≤ (192 : Int).tdiv x.Long.Den := Int.tdiv_nonneg (by omega) (by omega)
  have h7 : (192 : Int).tdiv x.Long.Den ≠ 0 := fun h => by rw [h] at h5; omega
  have h8 : x.Long.Den * 1 ≤ x.Long.Den * (192 : Int).tdiv x.Long.Den := Int.mul_le_mul_of_nonneg_left (by omega) (by omega)
  omega
 exact ⟨by omega, by omega, by omega, by unfold bs; rw [← size_data]; exact h6⟩
theorem toneW_len {x : TTone} (h : TSz x) : (toneW x).length ≤ 87 := by
 have h1 := itoa_len h.note; have h2 := itoa_len h.num; have h3 := itoa_len h.den; have h4 := h.text
 unfold toneW
 repeat' split
 all_goals
  simp only [List.length_append, List.length_cons, List.length_nil]
  omega
theorem both_toneText {x : TTone} (h : TSz x) : m_piece_toneText x = some (toB (toneW x)) ∧ m_gleeref2_toneText x = some (toB (toneW x)) := by
 have h1 := itoa_len h.note; have h2 := itoa_len h.num; have h3 := itoa_len h.den; have h4 := h.text
 have hn : ∀ N : BL, N.length ≤ 21 → ((catM (toB [58]) (toB (Lib.itoa x.Long.Num))).bind fun c7 => (catM c7 (toB [47])).bind fun c8 => ((some (toB (Lib.itoa x.Long.Den)) : Option ByteArray).bind fun y9 => (catM c8 y9).bind fun c10 => (catM (toB N) c10).bind fun c11 => (ifB x.Tied ((catM c11 (toB [126])).bind fun c15 => some (.inl c15)) (some (.inl c11)) : Option (ByteArray ⊕ ByteArray)).bind fun k14 => Sum.fin k14 fun u12 => ifB (!(x.Text.toList == ByteArray.empty.toList)) ((catM (toB [58]) x.Text).bind fun c16 => (catM u12 c16).bind fun c17 => some c17) (some u12))) = some (toB (N ++ 58 :: (Lib.itoa x.Long.Num ++ 47 :: Lib.itoa x.Long.Den) ++ (if x.Tied = true then [126] else []) ++ (if bs x.Text = [] then [] else 58 :: bs x.Text))) := by
  intro N hN
  rw [cat_is (by simp; omega), Option.bind_some, cat_is (by simp; omega), Option.bind_some, Option.bind_some, cat_is (by simp; omega), Option.bind_some, cat_is (by simp; omega), Option.bind_some, ba_nil, show x.Text.data.toList = bs x.Text from rfl]
  have e : N ++ (58 :: (Lib.itoa x.Long.Num ++ 47 :: Lib.itoa x.Long.Den)) = N ++ ([58] ++ Lib.itoa x.Long.Num ++ [47] ++ Lib.itoa x.Long.Den) := by simp
  rw [e]
  generalize hY : N ++ ([58] ++ Lib.itoa x.Long.Num ++ [47] ++ Lib.itoa x.Long.Den) = Y
  have hYl : Y.length ≤ 100 := by rw [← hY]; simp; omega
  have hT : ∀ (Z : BL), Z.length ≤ 200 → (ifB (!decide (bs x.Text = [])) ((catM (toB [58]) x.Text).bind fun c16 => (catM (toB Z) c16).bind fun c17 => some c17) (some (toB Z))) = some (toB (Z ++ (if bs x.Text = [] then [] else 58 :: bs x.Text))) := fun Z hZ => by
   by_cases h0 : bs x.Text = []
   ·rw [decide_eq_true h0, if_pos h0, Bool.not_true, ifB_false, List.append_nil]
   ·rw [decide_eq_false h0, if_neg h0, Bool.not_false, ifB_true]
    conv =>
     pattern catM _ x.Text
     rw [ba_bs x.Text]
    rw [cat_is (by simp; omega), Option.bind_some, cat_is (by simp; omega)]; rfl
  cases x.Tied with
  | true =>
   rw [ifB_true, cat_is (by simp; omega), Option.bind_some, Option.bind_some, fin_inl, hT _ (by simp; omega)]; rfl
  | false =>
   rw [ifB_false, Option.bind_some, fin_inl, hT _ (by omega)]; simp
 have e58 : ByteArray.mk [58].toArray = toB [58] := rfl
 have e47 : ByteArray.mk [47].toArray = toB [47] := rfl
 have e126 : ByteArray.mk [126].toArray = toB [126] := rfl
 have e45 : ByteArray.mk [45].toArray = toB [45] := rfl
 constructor
 ·unfold m_piece_toneText toneW
  rw [Itoa_is h.note, Itoa_is h.num, Itoa_is h.den, e58, e47, e126, e45]
  by_cases hN : x.Note = -1
  ·rw [show (x.Note != (-1)) = false by simp [hN], if_pos hN, ifB_false, Option.bind_some, fin_inl, Option.bind_some]
   exact hn [45] (by simp)
  ·rw [show (x.Note != (-1)) = true by simpa using hN, if_neg hN, ifB_true, Option.bind_some, Option.bind_some, fin_inl, Option.bind_some]
   exact hn _ h1
 ·unfold m_gleeref2_toneText toneW
  rw [Itoa_is h.note, Itoa_is h.num, Itoa_is h.den, e58, e47, e126, e45, Option.bind_some]
  by_cases hN : x.Note = -1
  ·rw [show (x.Note == (-1)) = true by simp [hN], if_pos hN, ifB_true, Option.bind_some, fin_inl, Option.bind_some]
   exact hn [45] (by simp)
  ·rw [show (x.Note == (-1)) = false by simpa using hN, if_neg hN, ifB_false, Option.bind_some, fin_inl, Option.bind_some]
   exact hn _ h1
def lineTB (g : List TTone) : BL := jn 32 (g.map toneW) ++ [10]
theorem jn_tones {g : List TTone} (h : ∀ x ∈ g, TSz x) : (jn 32 (g.map toneW)).length ≤ 88 * g.length := by
 have key : ∀ (g : List TTone), (∀ x ∈ g, TSz x) → ((g.map toneW).map (·.length + 1)).sum ≤ 88 * g.length := by
  intro g
  induction g with
  | nil => intro _; simp
  | cons x t ih =>
   intro h
   have h1 := ih fun y hy => h y (List.mem_cons_of_mem _ hy)
   have h2 := toneW_len (h x (List.mem_cons_self ..))
   simp only [List.map_cons, List.sum_cons, List.length_cons] at h1 ⊢
   omega
 exact Nat.le_trans (jn_len 32 (g.map toneW)) (key g h)
theorem words_prog {g : List TTone} (h : ∀ x ∈ g, TSz x) (hl : g.length ≤ 2000) : rangeM m_piece_Text_l2 0 g [] = some (.brk (g.map fun x => toB (toneW x))) := by
 obtain ⟨u, g1, g2⟩ := rangeM_invx m_piece_Text_l2 g (fun i u => u = (g.take i).map fun x => toB (toneW x)) (by
  rintro i x u hx rfl
  have hi := (List.getElem?_eq_some_iff.1 hx).1
  unfold m_piece_Text_l2
  rw [(both_toneText (h x (List.mem_of_getElem? hx))).1, Option.bind_some, appM_of (by simp; omega) (by omega), Option.bind_some]
  refine ⟨_, rfl, ?_⟩
  rw [List.take_add_one, hx]; simp) [] rfl
 rw [g1, g2, List.take_length]
theorem words_ref {g : List TTone} (h : ∀ x ∈ g, TSz x) (hl : g.length ≤ 2000) : rangeM m_gleeref2_ToneLines_l2 0 g [] = some (.brk (g.map fun x => toB (toneW x))) := by
 obtain ⟨u, g1, g2⟩ := rangeM_invx m_gleeref2_ToneLines_l2 g (fun i u => u = (g.take i).map fun x => toB (toneW x)) (by
  rintro i x u hx rfl
  have hi := (List.getElem?_eq_some_iff.1 hx).1
  unfold m_gleeref2_ToneLines_l2
  rw [(both_toneText (h x (List.mem_of_getElem? hx))).2, Option.bind_some, appM_of (by simp; omega) (by omega), Option.bind_some]
  refine ⟨_, rfl, ?_⟩
  rw [List.take_add_one, hx]; simp) [] rfl
 rw [g1, g2, List.take_length]
theorem map_tones (g : List TTone) : ((g.map fun x => toB (toneW x)).map fun y => y.data.toList) = g.map toneW := by simp [data_toB]
theorem text_line {g : List TTone} (h : ∀ x ∈ g, TSz x) (hl : g.length ≤ 2000) (i : Nat) (u : BL) (hu : u.length ≤ 700000) : m_piece_Text_l1 i g (toB u) = some (.nxt (toB (u ++ lineTB g))) ∧ m_gleeref2_ToneLines_l1 i g (toB u) = some (.nxt (toB (u ++ lineTB g))) := by
 have hj := jn_tones h
 constructor
 ·unfold m_piece_Text_l1
  rw [words_prog h hl, Option.bind_some, fin_brk, kitJoin_spec _ (by simp; omega) (by rw [map_tones]; omega), map_tones, Option.bind_some, write_is (by simp only [List.length_append, List.length_cons, List.length_nil]; omega), Option.bind_some]; rfl
 ·unfold m_gleeref2_ToneLines_l1
  rw [words_ref h hl, Option.bind_some, fin_brk, show (ByteArray.mk [32].toArray) = oneB 32 from rfl, Join_spec 32 _ (by simp; omega) (by rw [map_tones]; omega), map_tones, Option.bind_some, eN, cat_is (by simp only [List.length_cons, List.length_nil]; omega), Option.bind_some, cat_is (by simp only [List.length_append, List.length_cons, List.length_nil]; omega), Option.bind_some]; rfl
theorem flatT_len : ∀ {gs : List (List TTone)}, (∀ x ∈ List.flatten gs, TSz x) → (gs.flatMap lineTB).length ≤ 88 * (List.flatten gs).length + gs.length := by
 intro gs
 induction gs with
 | nil => intro _; simp
 | cons g t ih =>
  intro h
  have h1 := ih fun x hx => h x (by rw [List.flatten_cons]; exact List.mem_append_right _ hx)
  have h2 := jn_tones (g := g) fun x hx => h x (by rw [List.flatten_cons]; exact List.mem_append_left _ hx)
  have h3 : (lineTB g).length = (jn 32 (g.map toneW)).length + 1 := by unfold lineTB; simp
  simp only [List.flatMap_cons, List.flatten_cons, List.length_append, List.length_cons]
  omega
theorem flat_mem {gs : List (List TTone)} {i : Nat} {g : List TTone} (hg : gs[i]? = some g) : ∀ x ∈ g, x ∈ List.flatten gs := fun x hx => List.mem_flatten.2 ⟨g, List.mem_of_getElem? hg, hx⟩
theorem flat_le {gs : List (List TTone)} {n : Nat} (h : (List.flatten gs).length ≤ n) : ∀ g ∈ gs, g.length ≤ n := by
 intro g hg
 induction gs with
 | nil => cases hg
 | cons y t ih =>
  rw [List.flatten_cons, List.length_append] at h
  rcases List.mem_cons.1 hg with rfl | hg
  ·omega
  ·exact ih (by omega) hg
theorem take_flat {gs : List (List TTone)} (i : Nat) : (List.flatten (gs.take i)).length ≤ (List.flatten gs).length := by
 have : (List.flatten gs) = List.flatten (gs.take i) ++ List.flatten (gs.drop i) := by rw [← List.flatten_append, List.take_append_drop]
 rw [this, List.length_append]; omega
theorem lines_loops {gs : List (List TTone)} (h : ∀ x ∈ List.flatten gs, TSz x) (hl : (List.flatten gs).length ≤ 2000) (hg : gs.length ≤ 600) : rangeM m_piece_Text_l1 0 gs ByteArray.empty = some (.brk (toB (gs.flatMap lineTB))) ∧ rangeM m_gleeref2_ToneLines_l1 0 gs ByteArray.empty = some (.brk (toB (gs.flatMap lineTB))) := by
 have hb : ∀ i, ((gs.take i).flatMap lineTB).length ≤ 700000 := fun i => by
  have h1 := flatT_len (gs := gs.take i) fun x hx => by
   obtain ⟨l, g1, g2⟩ := List.mem_flatten.1 hx
   exact h x (List.mem_flatten.2 ⟨l, List.take_subset _ _ g1, g2⟩)
  have h2 := take_flat (gs := gs) i
  have h3 : (gs.take i).length ≤ gs.length := by rw [List.length_take]; omega
  omega
 constructor
 ·obtain ⟨u, g1, g2⟩ := rangeM_invx m_piece_Text_l1 gs (fun i u => u = toB ((gs.take i).flatMap lineTB)) (by
   rintro i g u hx rfl
   refine ⟨_, (text_line (fun x hx' => h x (flat_mem hx x hx')) (flat_le hl g (List.mem_of_getElem? hx)) i _ (hb i)).1, ?_⟩
   rw [List.take_add_one, hx]
   simp [List.flatMap_append]) ByteArray.empty rfl
  rw [g1, g2, List.take_length]
 ·obtain ⟨u, g1, g2⟩ := rangeM_invx m_gleeref2_ToneLines_l1 gs (fun i u => u = toB ((gs.take i).flatMap lineTB)) (by
   rintro i g u hx rfl
   refine ⟨_, (text_line (fun x hx' => h x (flat_mem hx x hx')) (flat_le hl g (List.mem_of_getElem? hx)) i _ (hb i)).2, ?_⟩
   rw [List.take_add_one, hx]
   simp [List.flatMap_append]) ByteArray.empty rfl
  rw [g1, g2, List.take_length]
theorem FillsR.fills {bars : List TBar} {t : List TTone} (h : FillsR bars t) : Fills bars t false := ⟨h.len, fun x hx => (h.rt x hx).good, h.seg, fun j x hx => by
 unfold badT
 cases ht : x.Tied with
 | false => rfl
 | true =>
  obtain ⟨y, h1, h2⟩ := h.tie j x hx ht
  rw [h1]
  simp [h2]⟩
theorem ToneText_spec (L : List Int) {bars : List TBar} {q : Int} (hb : bars.length ≤ 12) (hq : 0 ≤ q) (hq' : q ≤ 20000) : ∃ t q', m_gleemake_Stream_ToneText L q bars = some (t, q') := by
 unfold m_gleemake_Stream_ToneText
 rw [BarsFault_spec bars (by omega), Option.bind_some]
 by_cases hc : cB bars = 0
 case neg =>
  rw [show (cB bars != 0) = true from bne_iff_ne.2 hc]
  exact ⟨_, _, rfl⟩
 rw [hc, show ((0 : Int) != 0) = false from rfl, ifB_false]
 obtain ⟨hbl, rr, hgb, -⟩ := cB_zero hc
 have hbad := goB_all bars _ rr hgb
 obtain ⟨t, q1, h1, h2, h3, h4, h5, -⟩ := TonesFor_right L hb hc hq hq'
 have hF := h5.fills
 obtain ⟨gs, g1, g2, g3, g4⟩ := inBars_eq hbad (by omega) hF
 have hgl : gs.length = bars.length := by
  have := congrArg List.length g4
  simpa using this
 have hsz : ∀ x ∈ List.flatten gs, TSz x := fun x hx => (hF.good x (by rw [g3]; exact hx)).sz
 have hf : (List.flatten gs).length ≤ 2000 := by rw [← g3]; exact hF.len
 obtain ⟨-, k2⟩ := lines_loops hsz hf (by omega)
 have hfl := flatT_len hsz
 rw [h1, Option.bind_some]
 simp only
 unfold m_gleeref2_ToneLines
 rw [g2, Option.bind_some, k2, Option.bind_some, fin_brk, Option.bind_some]
 obtain ⟨v, h12, h13⟩ := Pick_spec L (p := q1) [0, 0, 1, 2] (by omega) (by omega) (by simp) (by simp)
 rw [h12, Option.bind_some]
 simp only
 have hv : 0 ≤ v ∧ v ≤ 2 := by
  simp only [List.mem_cons, List.not_mem_nil, or_false] at h13
  omega
 rw [rangeI_of (by omega), Option.bind_some]
 obtain ⟨s, g1, g2⟩ := rangeM_invx (m_gleemake_Stream_ToneText_l1 L) (List.range v.toNat) (fun i s => ∃ (t : ByteArray) (p : Int), s = (t, p) ∧ 0 ≤ p ∧ p ≤ q1 + 1 + 3 * i ∧ (i = 0 ∧ t.size ≤ 200000 ∨ i = 1 ∧ t.size ≤ 500000 ∨ i = 2)) (by
  rintro i y s hx ⟨t, p, rfl, g2, g3, g4⟩
  have hi : i < v.toNat := by have := (List.getElem?_eq_some_iff.1 hx).1; simpa using this
  unfold m_gleemake_Stream_ToneText_l1
  simp only
  obtain ⟨t', q', k1, k2, k3, k4⟩ := Changed_spec L (q := p) t (ByteArray.mk [32, 10, 58, 47, 126, 45, 48, 45, 57, 54, 97].toArray) (by omega) (by omega) (by omega) ⟨by decide, by decide⟩
  rw [k1, Option.bind_some]
  exact ⟨_, rfl, t', q', rfl, by omega, by omega, by omega⟩) (toB (gs.flatMap lineTB), q1 + 1) ⟨_, _, rfl, by omega, by omega, .inl ⟨rfl, by rw [toB_size]; omega⟩⟩
 rw [g1, Option.bind_some, fin_brk]
 exact ⟨_, _, rfl⟩
end Go.G
namespace Go.G
open Go Go.J
set_option linter.unusedSimpArgs false
set_option linter.unusedVariables false
theorem numB_canon {s : ByteArray} {n : Int} (hs : s.size ≤ 1000000) (h : numB s = some n) : Lib.itoa n = s.data.toList := by
 obtain ⟨-, n', g1, g2⟩ := Number_spec s hs
 have e := g2 n h
 subst e
 rw [h] at g1
 obtain ⟨d, neg, hC, hT, hsd, hng⟩ := prefix_spec s
 have hds : d.size ≤ s.size := by
  rw [size_data, size_data, hsd]
  split
  ·simp
  ·exact Nat.le_refl _
 unfold m_gleeref2_Number at g1
 rw [show m_strings_TrimPrefix s (ByteArray.mk [45].toArray) = some d from hT, Option.bind_some] at g1
 by_cases h0 : (d.toList == ByteArray.empty.toList) = true
 ·rw [h0] at g1; simp at g1
 rw [Bool.eq_false_iff.2 h0, ifB_false] at g1
 by_cases h1 : (d.size : Int) > 15
 ·rw [decide_eq_true h1] at g1; simp at g1
 rw [decide_eq_false h1, ifB_false, show (ByteArray.mk [48, 49, 50, 51, 52, 53, 54, 55, 56, 57].toArray) = digB from rfl, only_spec d digB (by omega), Option.bind_some] at g1
 cases hA : d.data.toList.all fun b => decide (b ∈ digB.data.toList) with
 | false => rw [hA] at g1; simp at g1
 | true =>
  rw [hA] at g1
  simp only [Bool.not_true, Option.bind_some, fin_inl, ifB_false] at g1
  cases hAt : m_strconv_Atoi s with
  | none => rw [hAt] at g1; cases g1
  | some v =>
   rw [hAt, Option.bind_some] at g1
   cases hIt : m_strconv_Itoa v.1 with
   | none => rw [hIt] at g1; cases g1
   | some y =>
    rw [hIt, Option.bind_some] at g1
    have e1 : v.1 = n' := congrArg Prod.fst (Option.some.inj g1)
    have e2 : (y.toList == s.toList) = true := congrArg Prod.snd (Option.some.inj g1)
    have e3 : y = s := ba_toList_inj.1 (by simpa using e2)
    unfold m_strconv_Itoa at hIt
    split at hIt
    ·rw [← e1, ← e3, ← Option.some.inj hIt]
    ·cases hIt
theorem natB_canon {w : BL} {n : Int} (hw : w.length ≤ 1000000) (h : natB w = some n) : Lib.itoa n = w := by
 have := numB_canon (s := toB w) (by rw [toB_size]; exact hw) (natB_some hw h).1
 rw [data_toB] at this; exact this
theorem finT_canon {a b t : BL} {z : TTone} (ha : a.length ≤ 1000000) (hb : b.length ≤ 1000000) (h : finT a b t = some z) : toneW z = a ++ 58 :: b ++ (if t = [] then [] else 58 :: t) := by
 unfold finT at h
 cases hn : noteL a with
 | none => rw [hn] at h; cases h
 | some n =>
  cases hl : lenL b with
  | none => rw [hn, hl] at h; cases h
  | some ft =>
   obtain ⟨f, td⟩ := ft
   rw [hn, hl] at h
   cases h
   have hN : (if n = -1 then [45] else Lib.itoa n) = a := by
    unfold noteL at hn
    by_cases h45 : a = [45]
    ·rw [if_pos h45] at hn
     cases hn
     rw [if_pos rfl, h45]
    ·rw [if_neg h45] at hn
     have := (natB_some ha hn).2.1
     rw [if_neg (by omega), natB_canon ha hn]
   have hlz := lenL_sz b
   unfold lenL at hl
   simp only at hl
   have hB : b = (if b.getLast? = some 126 then b.dropLast else b) ++ (if b.getLast? = some 126 then [126] else []) := by
    by_cases h126 : b.getLast? = some 126
    ·rw [if_pos h126, if_pos h126]
     obtain ⟨l, hl⟩ := List.getLast?_eq_some_iff.1 h126
     rw [hl]; simp
    ·rw [if_neg h126, if_neg h126, List.append_nil]
   have htd : (if b.getLast? = some 126 then ([126] : BL) else []) = if decide (b.getLast? = some 126) = true then [126] else [] := by simp
   rw [htd] at hB
   generalize (if b.getLast? = some 126 then b.dropLast else b) = l at hl hlz hB
   generalize decide (b.getLast? = some 126) = td' at hl hB
   cases hc : cut1 47 l with
   | none => rw [hc] at hl; cases hl
   | some pq =>
    obtain ⟨p, q⟩ := pq
    obtain ⟨e1, e2⟩ := cut1_some 47 l p q hc
    have hlen : p.length + (q.length + 1) = l.length := by rw [e1]; simp
    rw [hc] at hl
    simp only at hl
    cases hp : natB p with
    | none => rw [hp] at hl; cases hl
    | some m =>
     cases hq : natB q with
     | none => rw [hp, hq] at hl; cases hl
     | some d =>
      rw [hp, hq] at hl
      cases hl
      unfold toneW
      simp only [bs, data_toB]
      rw [hN, natB_canon (by omega) hp, natB_canon (by omega) hq, ← e1]
      conv => rhs; rw [hB]
      by_cases ht : t = [] <;> simp [ht]
theorem toneL_canon {w : BL} {z : TTone} (hw : w.length ≤ 1000000) (h : toneL w = some z) : toneW z = w := by
 unfold toneL at h
 cases h1 : cut1 58 w with
 | none => rw [h1] at h; cases h
 | some ar =>
  obtain ⟨a, r⟩ := ar
  obtain ⟨e1, e2⟩ := cut1_some 58 w a r h1
  have hlen : a.length + (r.length + 1) = w.length := by rw [e1]; simp
  rw [h1] at h
  simp only at h
  cases h2 : cut1 58 r with
  | none =>
   rw [h2] at h
   rw [finT_canon (by omega) (by omega) h, e1, if_pos rfl, List.append_nil]
  | some bt =>
   obtain ⟨b, t⟩ := bt
   obtain ⟨f1, f2⟩ := cut1_some 58 r b t h2
   have hlen2 : b.length + (t.length + 1) = r.length := by rw [f1]; simp
   rw [h2] at h
   simp only at h
   by_cases ht : t = []
   ·rw [if_pos ht] at h; cases h
   ·rw [if_neg ht] at h
    rw [finT_canon (by omega) (by omega) h, if_neg ht, e1, f1]
    simp
theorem allT_canon : ∀ (L : List BL) (ts : List TTone), (∀ w ∈ L, w.length ≤ 1000000) → allT L = some ts → ts.map toneW = L
 | [], ts, _, h => by cases h; rfl
 | w :: t, ts, hL, h => by
  rw [allT_cons] at h
  cases hw : toneL w with
  | none => rw [hw] at h; cases h
  | some y =>
   rw [hw] at h
   obtain ⟨r, h1, rfl⟩ := Option.map_eq_some_iff.1 h
   rw [List.map_cons, toneL_canon (hL w (List.mem_cons_self ..)) hw, allT_canon t r (fun v hv => hL v (List.mem_cons_of_mem _ hv)) h1]
theorem lineT_canon {x : BL} {ts : List TTone} (h : lineT x = some ts) : jn 32 (ts.map toneW) = x := by
 unfold lineT at h
 by_cases hx' : 200000 < x.length
 ·rw [if_pos hx'] at h; cases h
 rw [if_neg hx'] at h
 split at h
 ·cases h
 ·rw [allT_canon _ _ (spl_lens (by omega)).2 h, jn_spl]
theorem rdG_canon : ∀ (P : List BL) (i : Nat) (u v : List (List TTone)), rdL toneG i P u = .inr v → ∃ w, v = u ++ w ∧ (w.map fun g => jn 32 (g.map toneW)) = P := by
 intro P
 induction P with
 | nil => intro i u v hv; simp [rdL] at hv; exact ⟨[], by simp [hv], rfl⟩
 | cons x t ih =>
  intro i u v hv
  unfold rdL toneG at hv
  cases hl : lineT x with
  | none => rw [hl] at hv; cases hv
  | some ts =>
   rw [hl] at hv
   obtain ⟨w, h1, h2⟩ := ih (i + 1) (u ++ [ts]) v hv
   exact ⟨ts :: w, by rw [h1, List.append_assoc]; rfl, by rw [List.map_cons, h2, lineT_canon hl]⟩
theorem same_cut : ∀ (a b : List (List TTone)), (a.map List.length) = (b.map List.length) → List.flatten a = List.flatten b → a = b
 | [], [], _, _ => rfl
 | [], _ :: _, h, _ => by cases h
 | _ :: _, [], h, _ => by cases h
 | x :: a, y :: b, h, e => by
  rw [List.map_cons, List.map_cons] at h
  injection h with h1 h2
  rw [List.flatten_cons, List.flatten_cons] at e
  obtain ⟨e1, e2⟩ := List.append_inj e h1
  rw [e1, same_cut a b h2 e2]
theorem cut1_app {c : UInt8} : ∀ {a : BL} (r : BL), c ∉ a → cut1 c (a ++ c :: r) = some (a, r)
 | [], r, _ => by rw [List.nil_append, cut1, if_pos rfl]
 | b :: a, r, h => by
  rw [List.cons_append, cut1, if_neg (fun e => h (by simp [e])), cut1_app r (fun e => h (by simp [e]))]; rfl
theorem cut1_no {c : UInt8} : ∀ {a : BL}, c ∉ a → cut1 c a = none
 | [], _ => rfl
 | b :: a, h => by rw [cut1, if_neg (fun e => h (by simp [e])), cut1_no (fun e => h (by simp [e]))]; rfl
theorem natB_itoa {n : Int} (h0 : 0 ≤ n) (h : n < 1000000000000000) : natB (Lib.itoa n) = some n := by
 unfold natB
 rw [numB_itoa h0 h]
 simp only
 rw [if_pos h0]
theorem TGood.den_le {x : TTone} (h : TGood x) : x.Long.Den ≤ 192 := by
 obtain ⟨h1, h2, h3, h4, h5, h6, -⟩ := h
 have h5 : (192 : Int) = x.Long.Den * (192 : Int).tdiv x.Long.Den := by have := Int.mul_tdiv_add_tmod 192 x.Long.Den; omega
 have h6 : 0 ≤ (192 : Int).tdiv x.Long.Den := Int.tdiv_nonneg (by omega) (by omega)
 have h7 : (192 : Int).tdiv x.Long.Den ≠ 0 := fun h => by rw [h] at h5; omega
 have h8 : x.Long.Den * 1 ≤ x.Long.Den * (192 : Int).tdiv x.Long.Den := Int.mul_le_mul_of_nonneg_left (by omega) (by omega)
 omega
theorem lenL_len (n d : Int) (td : Bool) (hn : 0 ≤ n) (hn' : n < 1000000000000000) (hd : 0 ≤ d) (hd' : d < 1000000000000000) : lenL ((Lib.itoa n ++ 47 :: Lib.itoa d) ++ (if td = true then [126] else [])) = some (⟨n, d⟩, td) := by
 have h47 : (47 : UInt8) ∉ Lib.itoa n := itoa_no hn (by decide)
 have hc : cut1 47 (Lib.itoa n ++ 47 :: Lib.itoa d) = some (Lib.itoa n, Lib.itoa d) := cut1_app _ h47
 cases td with
 | true =>
  unfold lenL
  rw [if_pos (rfl : true = true), List.getLast?_concat, if_pos rfl, List.dropLast_concat]
  simp only
  rw [hc]
  simp only
  rw [natB_itoa hn hn', natB_itoa hd hd']
  simp
 | false =>
  have hlast : (Lib.itoa n ++ 47 :: Lib.itoa d).getLast? ≠ some 126 := by
   intro e
   obtain ⟨l, hl⟩ := List.getLast?_eq_some_iff.1 e
   have hne := (itoa_nat_digits hd).2
   have hmem : (126 : UInt8) ∈ Lib.itoa d := by
    rcases List.eq_nil_or_concat (Lib.itoa d) with h0 | ⟨D, y, h0⟩
    ·exact absurd h0 hne
    ·rw [h0] at e ⊢
     have e' : (Lib.itoa n ++ 47 :: (D ++ [y])).getLast? = some y := by
      rw [show Lib.itoa n ++ 47 :: (D ++ [y]) = (Lib.itoa n ++ 47 :: D) ++ [y] by simp, List.getLast?_concat]
     have e : (Lib.itoa n ++ 47 :: (D ++ [y])).getLast? = some 126 := by simpa using e
     rw [e'] at e
     cases e
     simp
   exact itoa_no hd (by decide) hmem
  rw [show (if false = true then ([126] : BL) else []) = [] from rfl, List.append_nil]
  unfold lenL
  rw [if_neg hlast]
  simp only
  rw [hc]
  simp only
  rw [natB_itoa hn hn', natB_itoa hd hd']
  rw [decide_eq_false hlast]
theorem toneL_toneW {x : TTone} (h : TGood x) : toneL (toneW x) = some x := by
 have hd := h.den_le
 have hnum := h.num; have hden := h.den; have hmost := h.most; have hnote := h.note
 have hN58 : (58 : UInt8) ∉ (if x.Note = -1 then ([45] : BL) else Lib.itoa x.Note) := by
  split
  ·decide
  ·exact itoa_no (by omega) (by decide)
 have hNL : noteL (if x.Note = -1 then ([45] : BL) else Lib.itoa x.Note) = some x.Note := by
  unfold noteL
  by_cases hn : x.Note = -1
  ·rw [if_pos hn, if_pos rfl, hn]
  ·rw [if_neg hn]
   have hne : Lib.itoa x.Note ≠ [45] := fun e => by
    have := (itoa_nat_digits (n := x.Note) (by omega)).1 45 (by rw [e]; simp)
    exact absurd this (by decide)
   rw [if_neg hne, natB_itoa (by omega) (by omega)]
 have hL58 : (58 : UInt8) ∉ (Lib.itoa x.Long.Num ++ 47 :: Lib.itoa x.Long.Den) ++ (if x.Tied = true then [126] else []) := by
  intro g
  rcases List.mem_append.1 g with g | g
  ·rcases List.mem_append.1 g with g | g
   ·exact itoa_no (by omega) (by decide) g
   ·rcases List.mem_cons.1 g with g | g
    ·exact absurd g (by decide)
    ·exact itoa_no (by omega) (by decide) g
  ·split at g
   ·exact absurd g (by decide)
   ·cases g
 have hLL := lenL_len x.Long.Num x.Long.Den x.Tied (by omega) (by omega) (by omega) (by omega)
 unfold toneW
 generalize (if x.Note = -1 then ([45] : BL) else Lib.itoa x.Note) = N at hN58 hNL
 generalize hl : (Lib.itoa x.Long.Num ++ 47 :: Lib.itoa x.Long.Den) ++ (if x.Tied = true then [126] else []) = l at hL58 hLL
 have e : N ++ 58 :: (Lib.itoa x.Long.Num ++ 47 :: Lib.itoa x.Long.Den) ++ (if x.Tied = true then [126] else []) ++ (if bs x.Text = [] then [] else 58 :: bs x.Text) = N ++ 58 :: (l ++ (if bs x.Text = [] then [] else 58 :: bs x.Text)) := by rw [← hl]; simp
 rw [e]
 unfold toneL
 rw [cut1_app _ hN58]
 simp only
 have hfin : ∀ t : BL, t = bs x.Text → finT N l t = some x := fun t ht => by
  unfold finT
  rw [hNL, hLL, ht]
  simp only
  rw [← ba_bs]
 by_cases ht : bs x.Text = []
 ·rw [if_pos ht, List.append_nil, cut1_no hL58]
  exact hfin [] ht.symm
 ·rw [if_neg ht, cut1_app _ hL58]
  simp only
  rw [if_neg ht]
  exact hfin _ rfl
theorem text_bytes {x : TTone} (h : TGood x) : ∀ b ∈ bs x.Text, 33 ≤ b.toNat := by
 intro b hb
 obtain ⟨j, hj, e⟩ := List.getElem_of_mem hb
 have hj' : j < x.Text.size := by rw [size_data]; exact hj
 have hs : strI x.Text (j : Int) = some (b.toNat : Int) := by
  rw [strI_nat, show x.Text.data.toList[j]? = some b by rw [← e]; exact List.getElem?_eq_getElem hj]; rfl
 have := h.byte j _ hj' hs
 omega
theorem toneW_word {x : TTone} (h : TGood x) : toneW x ≠ [] ∧ (32 : UInt8) ∉ toneW x ∧ (10 : UInt8) ∉ toneW x := by
 have hd := h.den_le
 have hnum := h.num; have hden := h.den; have hmost := h.most; have hnote := h.note
 have key : ∀ c : UInt8, c.toNat < 33 → c ∉ toneW x := fun c hc g => by
  have hcc : ∀ k : UInt8, 33 ≤ k.toNat → c ≠ k := fun k hk e => by subst e; omega
  unfold toneW at g
  rcases List.mem_append.1 g with g | g
  ·rcases List.mem_append.1 g with g | g
   ·rcases List.mem_append.1 g with g | g
    ·split at g
     ·exact hcc 45 (by decide) (List.mem_singleton.1 g)
     ·exact itoa_no (by omega) (by omega) g
    ·rcases List.mem_cons.1 g with g | g
     ·exact hcc 58 (by decide) g
     ·rcases List.mem_append.1 g with g | g
      ·exact itoa_no (by omega) (by omega) g
      ·rcases List.mem_cons.1 g with g | g
       ·exact hcc 47 (by decide) g
       ·exact itoa_no (by omega) (by omega) g
   ·split at g
    ·exact hcc 126 (by decide) (List.mem_singleton.1 g)
    ·cases g
  ·split at g
   ·cases g
   ·rcases List.mem_cons.1 g with g | g
    ·exact hcc 58 (by decide) g
    ·have := text_bytes h c g
     omega
 refine ⟨fun e => ?_, key 32 (by decide), key 10 (by decide)⟩
 unfold toneW at e
 simp at e
theorem allT_back : ∀ (g : List TTone), (∀ x ∈ g, TGood x) → allT (g.map toneW) = some g
 | [], _ => rfl
 | x :: t, h => by
  rw [List.map_cons, allT_cons, toneL_toneW (h x (List.mem_cons_self ..)), allT_back t (fun y hy => h y (List.mem_cons_of_mem _ hy))]; rfl
theorem lineT_back {g : List TTone} (h : ∀ x ∈ g, TGood x) (h0 : g ≠ []) (hl : g.length ≤ 2000) : lineT (jn 32 (g.map toneW)) = some g ∧ (10 : UInt8) ∉ jn 32 (g.map toneW) := by
 have hw : ∀ w ∈ g.map toneW, w ≠ [] ∧ (32 : UInt8) ∉ w ∧ (10 : UInt8) ∉ w := fun w hw => by
  obtain ⟨x, hx, rfl⟩ := List.mem_map.1 hw
  exact toneW_word (h x hx)
 have hj := jn_tones (g := g) fun x hx => (h x hx).sz
 have hs : spl 32 (jn 32 (g.map toneW)) = g.map toneW := spl_jn 32 _ (by simpa using h0) fun w hx => (hw w hx).2.1
 constructor
 ·unfold lineT
  rw [if_neg (by omega), hs, if_neg (fun g => (hw [] g).1 rfl), allT_back g h]
 ·have key : ∀ (L : List BL), (∀ w ∈ L, (10 : UInt8) ∉ w) → (10 : UInt8) ∉ jn 32 L := by
   intro L
   induction L with
   | nil => intro _ h; cases h
   | cons w t ih =>
    intro hL h
    cases t with
    | nil => exact hL w (List.mem_cons_self ..) h
    | cons v t =>
     have h' : (10 : UInt8) ∈ w ++ 32 :: jn 32 (v :: t) := h
     rcases List.mem_append.1 h' with g | g
     ·exact hL w (List.mem_cons_self ..) g
     ·rcases List.mem_cons.1 g with g | g
      ·exact absurd g (by decide)
      ·exact ih (fun y hy => hL y (List.mem_cons_of_mem _ hy)) g
  exact key _ fun w hx => (hw w hx).2.2
theorem lines_of {P : List BL} (h : ∀ x ∈ P, (10 : UInt8) ∉ x) : linesOf (P.flatMap fun x => x ++ [10]) = P ∧ leftOf (P.flatMap fun x => x ++ [10]) = [] := by
 have e : ∀ (P : List BL), (P.flatMap fun x => x ++ [10]) = jn 10 (P ++ [[]]) := by
  intro P
  induction P with
  | nil => rfl
  | cons x t ih => rw [List.flatMap_cons, ih, List.cons_append, jn_line, List.append_assoc]; rfl
 have es : spl 10 (P.flatMap fun x => x ++ [10]) = P ++ [[]] := by
  rw [e]
  refine spl_jn 10 _ (by simp) fun x hx => ?_
  rcases List.mem_append.1 hx with g | g
  ·exact h x g
  ·rw [List.mem_singleton.1 g]; simp
 have e2 := lines_split (P.flatMap fun x => x ++ [10])
 rw [es] at e2
 have e3 := List.append_inj' e2 rfl
 exact ⟨e3.1.symm, (List.cons.inj e3.2).1.symm⟩
theorem text_lines (t : BL) (h : leftOf t = []) : t = (linesOf t).flatMap fun x => x ++ [10] := by
 have e : ∀ (P : List BL), (P.flatMap fun x => x ++ [10]) = jn 10 (P ++ [[]]) := by
  intro P
  induction P with
  | nil => rfl
  | cons x t ih => rw [List.flatMap_cons, ih, List.cons_append, jn_line, List.append_assoc]; rfl
 rw [e]
 have := text_of t
 rw [h] at this
 exact this.symm
theorem rdG_back : ∀ (gs : List (List TTone)) (i : Nat) (u : List (List TTone)), (∀ g ∈ gs, lineT (jn 32 (g.map toneW)) = some g) → rdL toneG i (gs.map fun g => jn 32 (g.map toneW)) u = .inr (u ++ gs) := by
 intro gs
 induction gs with
 | nil => intro i u _; simp [rdL]
 | cons g t ih =>
  intro i u h
  rw [List.map_cons, rdL]
  unfold toneG
  rw [h g (List.mem_cons_self ..)]
  simp only [Option.map_some]
  show rdL toneG (i + 1) _ _ = _
  rw [ih (i + 1) (u ++ [g]) fun y hy => h y (List.mem_cons_of_mem _ hy), List.append_assoc]; rfl
end Go.G
