/- LTt: ToneTexts' law. In plain Lean, no program in sight. -/
import Derived.Test.YtlhfimbpjdfdgabGreatDoorLTr
import Derived.Test.YtlhfimbpjdfdgabGreatDoorLU6r
namespace Go.G
open Go Go.J
set_option linter.unusedSimpArgs false
set_option linter.unusedVariables false
/-! lines of tones -/
def allT : List BL → Option (List TTone)
  | [] => some []
  | w :: t => match toneL w with
    | some z => (allT t).map (z :: ·)
    | none => none
theorem allT_cons (w : BL) (t : List BL) : allT (w :: t) = (match toneL w with
    | some z => (allT t).map (z :: ·)
    | none => none) := rfl
def lineT (x : BL) : Option (List TTone) := if 200000 < x.length then none else if [] ∈ spl 32 x then none else allT (spl 32 x)
theorem allT_len : ∀ (L : List BL) (ts : List TTone), allT L = some ts → ts.length = L.length
  | [], ts, h => by cases h; rfl
  | w :: t, ts, h => by
    rw [allT_cons] at h
    cases hw : toneL w with
    | none => rw [hw] at h; cases h
    | some z =>
      rw [hw] at h
      obtain ⟨r, h1, rfl⟩ := Option.map_eq_some_iff.1 h
      rw [List.length_cons, List.length_cons, allT_len t r h1]
theorem finT_ok {a b t : BL} {z : TTone} (hb : b.length ≤ 1000000) (ht : t.length ≤ 1000000) (h : finT a b t = some z) : TOk z := by
  unfold finT at h
  cases hn : noteL a with
  | none => rw [hn] at h; cases h
  | some n =>
    cases hl : lenL b with
    | none => rw [hn, hl] at h; cases h
    | some ft =>
      obtain ⟨f, td⟩ := ft
      rw [hn, hl] at h
      cases h
      have hlz := lenL_sz b
      unfold lenL at hl
      simp only at hl
      generalize (if b.getLast? = some 126 then b.dropLast else b) = l at hl hlz
      cases hc : cut1 47 l with
      | none => rw [hc] at hl; cases hl
      | some pq =>
        obtain ⟨p, q⟩ := pq
        obtain ⟨e1, e2⟩ := cut1_some 47 l p q hc
        have hlen : p.length + (q.length + 1) = l.length := by rw [e1]; simp
        rw [hc] at hl
        simp only at hl
        cases hp : natB p with
        | none => rw [hp] at hl; cases hl
        | some m =>
          cases hq : natB q with
          | none => rw [hp, hq] at hl; cases hl
          | some d =>
            rw [hp, hq] at hl
            cases hl
            exact ⟨(natB_some (by omega) hp).2.2.1, (natB_some (by omega) hq).2.2.1, by show (toB t).size ≤ 1000000; rw [toB_size]; exact ht⟩
theorem toneL_ok {w : BL} {z : TTone} (hw : w.length ≤ 1000000) (h : toneL w = some z) : TOk z := by
  unfold toneL at h
  cases h1 : cut1 58 w with
  | none => rw [h1] at h; cases h
  | some ar =>
    obtain ⟨a, r⟩ := ar
    obtain ⟨e1, e2⟩ := cut1_some 58 w a r h1
    have hlen : a.length + (r.length + 1) = w.length := by rw [e1]; simp
    rw [h1] at h
    simp only at h
    cases h2 : cut1 58 r with
    | none =>
      rw [h2] at h
      exact finT_ok (by omega) (by simp) h
    | some bt =>
      obtain ⟨b, t⟩ := bt
      obtain ⟨f1, f2⟩ := cut1_some 58 r b t h2
      have hlen2 : b.length + (t.length + 1) = r.length := by rw [f1]; simp
      rw [h2] at h
      simp only at h
      split at h
      · cases h
      · exact finT_ok (by omega) (by omega) h
theorem allT_ok : ∀ (L : List BL) (ts : List TTone), (∀ w ∈ L, w.length ≤ 1000000) → allT L = some ts → ∀ z ∈ ts, TOk z
  | [], ts, _, h => by cases h; intro z hz; cases hz
  | w :: t, ts, hL, h => by
    rw [allT_cons] at h
    cases hw : toneL w with
    | none => rw [hw] at h; cases h
    | some y =>
      rw [hw] at h
      obtain ⟨r, h1, rfl⟩ := Option.map_eq_some_iff.1 h
      intro z hz
      rcases List.mem_cons.1 hz with rfl | hz
      · exact toneL_ok (hL w (List.mem_cons_self ..)) hw
      · exact allT_ok t r (fun v hv => hL v (List.mem_cons_of_mem _ hv)) h1 z hz
theorem readL2 : ∀ (L : List BL) (i : Nat) (ok : Bool) (u : List TTone), (∀ w ∈ L, w.length ≤ 1000000) → (u.length + L.length ≤ 2000000000000) → ∃ b ys, rangeM m_piece_Read_l2 i (L.map toB) (ok, u) = some (.brk (b, u ++ ys)) ∧ b = (ok && (allT L).isSome) ∧ ∀ ts, allT L = some ts → ys = ts := by
  intro L
  induction L with
  | nil => intro i ok u _ _; exact ⟨ok, [], by rw [List.append_nil]; rfl, by simp [allT], fun ts h => by cases h; rfl⟩
  | cons w t ih =>
    intro i ok u hL hl
    simp only [List.length_cons] at hl
    obtain ⟨y, g1, g2⟩ := readTone_spec w (hL w (List.mem_cons_self ..))
    have hst : m_piece_Read_l2 i (toB w) (ok, u) = some (.nxt (ok && (toneL w).isSome, u ++ [y])) := by
      unfold m_piece_Read_l2
      rw [g1, Option.bind_some]
      have app : appM 48 u [y] = some (u ++ [y]) := appM_of (by simp; omega) (by omega)
      cases ok <;> simp only [ifB_true, ifB_false, Option.bind_some, fin_inl, app, Bool.true_and, Bool.false_and]
    obtain ⟨b, ys, k1, k2, k3⟩ := ih (i + 1) (ok && (toneL w).isSome) (u ++ [y]) (fun v hv => hL v (List.mem_cons_of_mem _ hv)) (by simp; omega)
    rw [List.map_cons, rangeM_cons, hst, Option.bind_some, run_nxt, k1]
    refine ⟨b, y :: ys, by simp, ?_, ?_⟩
    · rw [k2, allT_cons]
      cases toneL w with
      | none => simp
      | some z => cases allT t <;> simp
    · intro ts h
      rw [allT_cons] at h
      cases hw : toneL w with
      | none => rw [hw] at h; cases h
      | some z =>
        rw [hw] at h
        obtain ⟨r, h1, rfl⟩ := Option.map_eq_some_iff.1 h
        rw [g2 z hw, k3 r h1]
theorem refL1 : ∀ (L : List BL) (i : Nat) (ok : Bool) (u : List TTone), (∀ w ∈ L, w.length ≤ 1000000) → (u.length + L.length ≤ 2000000000000) → ∃ b ys, rangeM m_gleeref2_TonesRead_1_l1 i (L.map toB) (ok, u) = some (.brk (b, u ++ ys)) ∧ b = (ok && (allT L).isSome) ∧ ∀ ts, allT L = some ts → ys = ts := by
  intro L
  induction L with
  | nil => intro i ok u _ _; exact ⟨ok, [], by rw [List.append_nil]; rfl, by simp [allT], fun ts h => by cases h; rfl⟩
  | cons w t ih =>
    intro i ok u hL hl
    simp only [List.length_cons] at hl
    obtain ⟨y, g1, g2⟩ := toneIn_spec w (hL w (List.mem_cons_self ..))
    have hst : m_gleeref2_TonesRead_1_l1 i (toB w) (ok, u) = some (.nxt (ok && (toneL w).isSome, u ++ [y])) := by
      unfold m_gleeref2_TonesRead_1_l1
      rw [g1, Option.bind_some]
      have app : appM 48 u [y] = some (u ++ [y]) := appM_of (by simp; omega) (by omega)
      simp only [app, Option.bind_some]
      cases ok <;> rfl
    obtain ⟨b, ys, k1, k2, k3⟩ := ih (i + 1) (ok && (toneL w).isSome) (u ++ [y]) (fun v hv => hL v (List.mem_cons_of_mem _ hv)) (by simp; omega)
    rw [List.map_cons, rangeM_cons, hst, Option.bind_some, run_nxt, k1]
    refine ⟨b, y :: ys, by simp, ?_, ?_⟩
    · rw [k2, allT_cons]
      cases toneL w with
      | none => simp
      | some z => cases allT t <;> simp
    · intro ts h
      rw [allT_cons] at h
      cases hw : toneL w with
      | none => rw [hw] at h; cases h
      | some z =>
        rw [hw] at h
        obtain ⟨r, h1, rfl⟩ := Option.map_eq_some_iff.1 h
        rw [g2 z hw, k3 r h1]
/-! reading -/
abbrev TS := (List TTone) × (List Int)
def toneF (_ : Nat) (s : TS) (x : BL) : Option TS := (lineT x).map fun ts => (s.1 ++ ts, s.2 ++ [(ts.length : Int)])
def toneG (_ : Nat) (s : List (List TTone)) (x : BL) : Option (List (List TTone)) := (lineT x).map fun ts => s ++ [ts]
def toneI (i : Nat) (s : TS) : Prop := s.1.length ≤ 200001 * i ∧ s.2.length ≤ i
def toneJ (i : Nat) (s : List (List TTone)) : Prop := s.length ≤ i
def asF (ls : List (List TTone)) : TS := (List.flatten ls, ls.map fun l => (l.length : Int))
theorem spl_lens {x : BL} (hx : x.length ≤ 200000) : (spl 32 x).length ≤ 200001 ∧ ∀ w ∈ spl 32 x, w.length ≤ 1000000 := by
  have := spl_len 32 x
  exact ⟨by omega, fun w hw => by have := spl_size hw; omega⟩
theorem lineT_len {x : BL} {ts : List TTone} (h : lineT x = some ts) : ts.length ≤ 200001 ∧ ∀ z ∈ ts, TOk z := by
  unfold lineT at h
  by_cases hx' : 200000 < x.length
  · rw [if_pos hx'] at h; cases h
  have hx : x.length ≤ 200000 := by omega
  rw [if_neg hx'] at h
  split at h
  · cases h
  · exact ⟨by rw [allT_len _ _ h]; exact (spl_lens hx).1, allT_ok _ _ (spl_lens hx).2 h⟩
theorem kitWords_cases (x : BL) (hx : x.length ≤ 200000) : (m_kit_Words (toB x) = some ([], false) ∧ lineT x = none) ∨ (m_kit_Words (toB x) = some ((spl 32 x).map toB, true) ∧ lineT x = allT (spl 32 x)) := by
  have hw := kitWords_spec (toB x) (by rw [toB_size]; omega)
  rw [data_toB] at hw
  unfold lineT
  rw [if_neg (show ¬ 200000 < x.length by omega)]
  by_cases hn : [] ∈ spl 32 x
  · rw [if_pos hn] at hw ⊢; exact .inl ⟨hw, rfl⟩
  · rw [if_neg hn] at hw ⊢; exact .inr ⟨hw, rfl⟩
theorem Read_l1 (Ls : List ByteArray) (ended : Bool) (i : Nat) (s : TS) (x : BL) (hs : s.1.length ≤ 1000000000000 ∧ s.2.length ≤ 1000000) (hx : x.length ≤ 200000) (hLs : Ls.length ≤ 400000) (he : ended = false → i + 1 < Ls.length) :
    m_piece_Read_l1 (Ls, ended) i (toB x) s = some (match toneF i s x with | some z => .nxt z | none => .ret ([], (i : Int), 9)) := by
  obtain ⟨o, m⟩ := s
  simp only at hs
  unfold m_piece_Read_l1 toneF
  have appi : ∀ n : Int, appM 8 m [n] = some (m ++ [n]) := fun n => appM_of (by simp; omega) (by omega)
  rcases kitWords_cases x hx with ⟨h1, h2⟩ | ⟨h1, h2⟩
  · rw [h1, h2]; rfl
  · obtain ⟨b, ys, k1, k2, k3⟩ := readL2 (spl 32 x) 0 true o (spl_lens hx).2 (by have := (spl_lens hx).1; omega)
    rw [h1, h2, Option.bind_some]
    simp only
    rw [k1, Option.bind_some, fin_brk, k2]
    cases ha : allT (spl 32 x) with
    | none => rfl
    | some ts =>
      have hlen := allT_len _ _ ha
      rw [k3 ts ha]
      simp only [Option.isSome_some, Bool.and_self, Bool.not_true, ifB_false, Option.map_some, List.length_map, hlen]
      cases ended with
      | true => simp only [Bool.not_true, ifB_false, Option.bind_some, fin_inl, appi]
      | false =>
        have hne : ((i : Int) == (w64 ((Ls.length : Int) - 1))) = false := by
          rw [w64_id (by omega)]
          have := he rfl
          rw [beq_eq_false_iff_ne]; omega
        simp only [Bool.not_false, ifB_true, Option.bind_some, fin_inl, hne, ifB_false, appi]
theorem Read_last (Ls : List ByteArray) (i : Nat) (s : TS) (x : BL) (hs : s.1.length ≤ 1000000000000) (hx : x.length ≤ 200000) (hi : i + 1 = Ls.length) (hLs : Ls.length ≤ 400000) :
    m_piece_Read_l1 (Ls, false) i (toB x) s = some (.ret ([], (i : Int), 9)) := by
  obtain ⟨o, m⟩ := s
  simp only at hs
  unfold m_piece_Read_l1
  have hq : ((i : Int) == (w64 ((Ls.length : Int) - 1))) = true := by
    rw [w64_id (by omega), beq_iff_eq]; omega
  rcases kitWords_cases x hx with ⟨h1, h2⟩ | ⟨h1, h2⟩
  · rw [h1]; rfl
  · obtain ⟨b, ys, k1, k2, k3⟩ := readL2 (spl 32 x) 0 true o (spl_lens hx).2 (by have := (spl_lens hx).1; omega)
    rw [h1, Option.bind_some]
    simp only
    rw [k1, Option.bind_some, fin_brk]
    cases b
    · simp only [Bool.not_false, ifB_true, Option.bind_some, fin_inl]
    · simp only [Bool.not_true, Bool.not_false, ifB_false, ifB_true, Option.bind_some, fin_inl, hq]
theorem closure_spec (x : BL) (L : List (List TTone)) (hx : x.length ≤ 200000) (hL : L.length ≤ 400000) : ∃ y, m_gleeref2_TonesRead_1 (toB x) L = some y ∧ y.1 = (lineT x).isSome ∧ ∀ z, lineT x = some z → y = (true, L ++ [z]) := by
  have hsz : (toB x).size < 4294967281 := by rw [toB_size]; omega
  unfold m_gleeref2_TonesRead_1 lineT
  rw [if_neg (show ¬ 200000 < x.length by omega), refWords_spec _ hsz, Option.bind_some, data_toB]
  obtain ⟨b, ys, k1, k2, k3⟩ := refL1 (spl 32 x) 0 (!decide ([] ∈ spl 32 x)) [] (spl_lens hx).2 (by have := (spl_lens hx).1; simp; omega)
  simp only
  rw [k1, Option.bind_some, fin_brk, List.nil_append, appM_of (by simp; omega) (by omega), Option.bind_some, k2]
  by_cases hn : [] ∈ spl 32 x
  · rw [if_pos hn, decide_eq_true hn]
    exact ⟨_, rfl, rfl, fun z hz => by cases hz⟩
  · rw [if_neg hn, decide_eq_false hn]
    refine ⟨_, rfl, by simp, fun z hz => ?_⟩
    rw [hz, k3 z hz]; rfl
theorem rd_two : ∀ (P : List BL) (i : Nat) (ls : List (List TTone)), rdL toneF i P (asF ls) = match rdL toneG i P ls with | .inl k => .inl k | .inr v => .inr (asF v) := by
  intro P
  induction P with
  | nil => intro i ls; rfl
  | cons x t ih =>
    intro i ls
    unfold rdL toneF toneG
    cases h : lineT x with
    | none => rfl
    | some ts =>
      simp only [Option.map_some]
      have : ((asF ls).1 ++ ts, (asF ls).2 ++ [(ts.length : Int)]) = asF (ls ++ [ts]) := by simp [asF]
      rw [this]
      exact ih (i + 1) (ls ++ [ts])
theorem toneF_I : ∀ i s x z, toneI i s → toneF i s x = some z → toneI (i + 1) z := by
  intro i s x z h1 h2
  unfold toneF at h2
  obtain ⟨ts, h3, rfl⟩ := Option.map_eq_some_iff.1 h2
  have := (lineT_len h3).1
  unfold toneI at *
  simp; omega
theorem rdG_ok : ∀ (P : List BL) (i : Nat) (ls v : List (List TTone)), (∀ x ∈ P, x.length ≤ 200000) → (∀ l ∈ ls, ∀ z ∈ l, TOk z) → rdL toneG i P ls = .inr v → v.length = ls.length + P.length ∧ ∀ l ∈ v, ∀ z ∈ l, TOk z := by
  intro P
  induction P with
  | nil => intro i ls v _ h hv; simp [rdL] at hv; subst hv; exact ⟨rfl, h⟩
  | cons x t ih =>
    intro i ls v hx h hv
    unfold rdL toneG at hv
    cases hl : lineT x with
    | none => rw [hl] at hv; cases hv
    | some ts =>
      rw [hl] at hv
      have hts := lineT_len hl
      have := ih (i + 1) (ls ++ [ts]) v (fun y hy => hx y (List.mem_cons_of_mem _ hy)) (fun l hl' => by
        rcases List.mem_append.1 hl' with g | g
        · exact h l g
        · rw [List.mem_singleton.1 g]; exact hts.2) hv
      refine ⟨by rw [this.1]; simp; omega, this.2⟩
end Go.G
