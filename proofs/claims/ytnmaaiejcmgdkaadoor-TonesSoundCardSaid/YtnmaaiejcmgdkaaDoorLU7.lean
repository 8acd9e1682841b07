/- LU7: lyrics, silent bars; the row of what tones sound. No program in sight. -/
import Derived.Test.YtnmaaiejcmgdkaaDoorLU6
namespace Go.G
open Go Go.J
set_option linter.unusedSimpArgs false
/-! ### lyrics -/
theorem strS_ok {s : ByteArray} {a b : Int} (h : 0 ≤ a ∧ a ≤ b ∧ b ≤ s.size) : ∃ d, strS s a b = some d ∧ d.size ≤ s.size := by
  unfold strS
  rw [if_pos h]
  exact ⟨_, rfl, by rw [ByteArray.size_extract]; omega⟩
theorem CutSuffix_ok (s t : ByteArray) (hs : s.size ≤ 1000000) (ht : t.size ≤ 1000000) : ∃ w b, m_strings_CutSuffix s t = some (w, b) ∧ w.size ≤ s.size := by
  unfold m_strings_CutSuffix m_stringslite_CutSuffix m_stringslite_HasSuffix
  rw [w64_id (by omega)]
  by_cases h : (s.size : Int) ≥ t.size
  · obtain ⟨d, h1, h2⟩ := strS_ok (s := s) (a := (s.size : Int) - t.size) (b := s.size) (by omega)
    obtain ⟨e, h3, h4⟩ := strS_ok (s := s) (a := 0) (b := (s.size : Int) - t.size) (by omega)
    simp only [decide_eq_true h, ifB_true, h1, h3, Option.bind_some]
    cases (d.toList == t.toList)
    · exact ⟨s, false, rfl, Nat.le_refl _⟩
    · exact ⟨e, true, rfl, h4⟩
  · simp only [decide_eq_false h, ifB_false, Option.bind_some, Bool.not_false, ifB_true]
    exact ⟨s, false, rfl, Nat.le_refl _⟩
theorem cat_ok {a b : ByteArray} (h : a.size + b.size ≤ 9223372036854775807) : catM a b = some (a ++ b) := by unfold catM; rw [if_pos h]
theorem write_ok {a b : ByteArray} (h : a.size + b.size ≤ 140737488355328) : m_bWriteString a b = some (a ++ b) := by unfold m_bWriteString; rw [if_pos h]
theorem lyr_loops (p : List TTone) (hl : p.length ≤ 4000000) (ht : ∀ x ∈ p, x.Text.size ≤ 1000) :
    ∃ (s : ByteArray × ByteArray) (t : ByteArray × ByteArray), rangeM m_piece_Lyrics_l1 0 p (ByteArray.empty, ByteArray.empty) = some (.brk s) ∧ rangeM m_gleeref2_LyricsOf_l1 0 p (ByteArray.empty, ByteArray.empty) = some (.brk t) ∧ s.2 = t.1 := by
  obtain ⟨s, t, h1, h2, h3, -⟩ := rangeM_rel2 m_piece_Lyrics_l1 m_gleeref2_LyricsOf_l1 p (fun i s t => s.2 = t.1 ∧ s.1 = t.2 ∧ t.2.size ≤ 1 ∧ t.1.size ≤ 1001 * i) (by
    rintro i x ⟨sep, b⟩ ⟨c, sep'⟩ hx ⟨h1, h2, h3, h4⟩
    simp only at h1 h2 h3 h4
    subst h1 h2
    have hi : i < p.length := (List.getElem?_eq_some_iff.1 hx).1
    have hxs := ht x (List.mem_of_getElem? hx)
    unfold m_piece_Lyrics_l1 m_gleeref2_LyricsOf_l1
    cases (x.Text.toList == ByteArray.empty.toList) with
    | true => exact ⟨_, _, rfl, rfl, rfl, rfl, h3, by show b.size ≤ 1001 * (i + 1); omega⟩
    | false =>
      obtain ⟨w, cut, e1, e2⟩ := CutSuffix_ok x.Text (ByteArray.mk [45].toArray) (by omega) (by decide)
      have e3 : (sep ++ w).size = sep.size + w.size := by simp
      simp only [ifB_false, e1, Option.bind_some]
      rw [cat_ok (by omega)]
      simp only [Option.bind_some]
      rw [write_ok (by omega), cat_ok (by omega)]
      simp only [Option.bind_some]
      have e4 : (b ++ (sep ++ w)).size = b.size + (sep.size + w.size) := by simp
      cases cut with
      | true => exact ⟨_, _, rfl, rfl, rfl, rfl, by show (ByteArray.empty).size ≤ 1; decide, by simp only; rw [e4]; omega⟩
      | false => exact ⟨_, _, rfl, rfl, rfl, rfl, by show (ByteArray.mk [32].toArray).size ≤ 1; decide, by simp only; rw [e4]; omega⟩) (ByteArray.empty, ByteArray.empty) (ByteArray.empty, ByteArray.empty) ⟨rfl, rfl, by decide, by decide⟩
  exact ⟨s, t, h1, h2, h3⟩
theorem Lyrics_spec {bs : List TBar} {t : List TTone} (hc : cB bs = 0) (hf : Fills bs t false) (ht : ∀ x ∈ t, TOk x) (hk : m_piece_CheckTones bs t = some 0) : ∃ v, m_piece_Lyrics bs t = some v ∧ m_gleeref2_LyricsOf bs t = some v := by
  obtain ⟨p, p1, p2, p3, p4⟩ := played_eq hc hf
  obtain ⟨a, b, h1, h2, h3⟩ := lyr_loops p p3 (p4 1000 fun x hx => (ht x hx).text)
  unfold m_piece_Lyrics m_gleeref2_LyricsOf
  simp only [hk, p1, p2, h1, h2, Option.bind_some, fin_brk, bne_self_eq_false, ifB_false, h3]
  cases decide ((b.1.size : Int) > 200000)
  · exact ⟨_, rfl, rfl⟩
  · exact ⟨_, rfl, rfl⟩
/-! ### silent bars -/
theorem rangeM_rel2z {α σ τ ρ π : Type} (stepA : Nat → α → σ → Option (Flow σ ρ)) (stepB : Nat → α → τ → Option (Flow τ π)) (xs zs : List α) (Rel : Nat → σ → τ → Prop)
    (h : ∀ i x s t, xs[i]? = some x → Rel i s t → ∃ s' t', stepA i x s = some (.nxt s') ∧ stepB i x t = some (.nxt t') ∧ Rel (i + 1) s' t') (s : σ) (t : τ) (h0 : Rel 0 s t) :
    ∃ s' t', rangeM stepA 0 xs s = some (.brk s') ∧ rangeM stepB 0 (xs ++ zs) t = rangeM stepB xs.length zs t' ∧ Rel xs.length s' t' := by
  have key : ∀ (ys : List α) (i : Nat) (s : σ) (t : τ), xs.drop i = ys → Rel i s t → ∃ s' t', rangeM stepA i ys s = some (.brk s') ∧ rangeM stepB i (ys ++ zs) t = rangeM stepB (i + ys.length) zs t' ∧ Rel (i + ys.length) s' t' := by
    intro ys
    induction ys with
    | nil => intro i s t _ hr; exact ⟨s, t, rfl, rfl, hr⟩
    | cons x ys ih =>
      intro i s t hd hr
      have hx : xs[i]? = some x := by
        have : (xs.drop i)[0]? = some x := by rw [hd]; rfl
        simpa using this
      obtain ⟨s', t', h1, h2, h3⟩ := h i x s t hx hr
      have hd' : xs.drop (i + 1) = ys := by rw [← List.drop_drop, hd]; rfl
      obtain ⟨s2, t2, h4, h5, h6⟩ := ih (i + 1) s' t' hd' h3
      have e : i + (x :: ys).length = i + 1 + ys.length := by simp; omega
      exact ⟨s2, t2, by rw [rangeM_cons, h1]; exact h4, by rw [List.cons_append, rangeM_cons, h2, e]; exact h5, by rw [e]; exact h6⟩
  have := key xs 0 s t rfl h0
  simpa using this
theorem sung_ok (g : List TTone) : ∃ b, m_slices_ContainsFunc_api_Tone_api_Tone__piece_Silent_1 g = some b ∧ m_slices_ContainsFunc_api_Tone_api_Tone__gleeref2_SilentOf_1 g = some b := by
  obtain ⟨n, h1, -⟩ := ixM_spec m_piece_Silent_1 (fun x => x.Note != (-1)) g (fun x _ => rfl)
  refine ⟨decide (n ≥ 0), ?_, ?_⟩
  · show (ixM m_piece_Silent_1 g).bind _ = _
    rw [h1]; rfl
  · show (ixM m_piece_Silent_1 g).bind _ = _
    rw [h1]; rfl
def lgR (n : Int) (r : TRange) : Bool := !decide (w64 (w64 (r.High - r.Low) + 1) < n)
structure SilR (n : Int) (i : Nat) (R : List TRange) (s : Int × List TRange) : Prop where
  len : R.length ≤ i
  len2 : s.2.length ≤ i
  st : (s.1 = -1 ∧ s.2 = R.filter (lgR n) ∧ ∀ r, R.getLast? = some r → r.High + 1 < i) ∨ ∃ (k : Nat) (R0 : List TRange), s.1 = k ∧ k < i ∧ R = R0 ++ [⟨k, (i : Int) - 1⟩] ∧ s.2 = R0.filter (lgR n)
theorem silent_step (n : Int) (i : Nat) (hi : i ≤ 1000) (g : List TTone) (R : List TRange) (s : Int × List TRange) (h : SilR n i R s) :
    ∃ R' s', m_piece_Silent_l1 i g R = some (.nxt R') ∧ m_gleeref2_SilentOf_l1 n i g s = some (.nxt s') ∧ SilR n (i + 1) R' s' := by
  obtain ⟨b, h1, h2⟩ := sung_ok g
  obtain ⟨f, out⟩ := s
  have hl := h.len
  have hl2 := h.len2
  simp only at hl2
  unfold m_piece_Silent_l1 m_gleeref2_SilentOf_l1
  simp only [h1, h2, Option.bind_some]
  rw [w64_id (n := (R.length : Int) - 1) (by omega), w64_id (n := (i : Int) - 1) (by omega)]
  cases b with
  | true =>
    simp only [ifB_true, Bool.not_true, ifB_false, Option.bind_some, fin_inl, Bool.not_false]
    rcases h.st with ⟨e1, e2, e3⟩ | ⟨k, R0, e1, e2, e3, e4⟩
    · simp only at e1 e2 e3
      subst e1
      rw [show decide ((-1 : Int) ≥ 0) = false from by decide]
      exact ⟨R, (-1, out), rfl, rfl, by omega, by simp only; omega, .inl ⟨rfl, e2, fun r hr => by have := e3 r hr; push_cast; omega⟩⟩
    · simp only at e1 e4
      subst e1
      have c : decide ((k : Int) ≥ 0) = true := by simp
      simp only [c, ifB_true]
      rw [w64_id (n := (i : Int) - k) (by omega)]
      have hlg : lgR n ⟨k, (i : Int) - 1⟩ = decide ((i : Int) - k ≥ n) := by
        unfold lgR
        rw [w64_id (n := (i : Int) - 1 - k) (by omega), w64_id (by omega)]
        rw [show (i : Int) - 1 - k + 1 = i - k by omega]
        by_cases hh : (i : Int) - k < n
        · simp [hh]
        · have : (i : Int) - k ≥ n := by omega
          simp [hh]; omega
      have hR0 : R0.length + 1 ≤ i := by rw [e3] at hl; simpa using hl
      have hlast : ∀ r, R.getLast? = some r → r.High + 1 < ((i + 1 : Nat) : Int) := fun r hr => by
        rw [e3] at hr
        simp at hr
        subst hr
        push_cast
        omega
      cases hd : decide ((i : Int) - k ≥ n) with
      | true =>
        simp only [ifB_true]
        rw [appM_of (by simp; omega) (by omega)]
        refine ⟨R, (-1, out ++ [⟨k, (i : Int) - 1⟩]), rfl, rfl, by omega, by simp; omega, .inl ⟨rfl, ?_, hlast⟩⟩
        simp only
        rw [e3, List.filter_append, e4]
        congr 1
        simp [hlg, hd]
      | false =>
        simp only [ifB_false]
        refine ⟨R, (-1, out), rfl, rfl, by omega, by simp only; omega, .inl ⟨rfl, ?_, hlast⟩⟩
        simp only
        rw [e3, List.filter_append, e4]
        simp [hlg, hd]
  | false =>
    simp only [ifB_false, Bool.not_false, ifB_true, Option.bind_some, fin_inl]
    rcases h.st with ⟨e1, e2, e3⟩ | ⟨k, R0, e1, e2, e3, e4⟩
    · simp only at e1 e2 e3
      subst e1
      rw [show decide ((-1 : Int) < 0) = true from by decide]
      have c : ∀ (k : Bool → Option (Flow (List TRange) ((List TRange) × Int))), ((ifB (decide ((R.length : Int) - 1 ≥ 0)) ((getI R ((R.length : Int) - 1)).bind fun e22 => some (.inl (e22.High == (i : Int) - 1))) (some (.inl false)) : Option (Bool ⊕ (Flow (List TRange) ((List TRange) × Int)))).bind fun z => Sum.fin z k) = k false := by
        intro k
        by_cases h0 : (R.length : Int) - 1 ≥ 0
        · have hlt : R.length - 1 < R.length := by omega
          have hg : getI R ((R.length : Int) - 1) = some R[R.length - 1] := getI_of (n := R.length - 1) (by omega) (List.getElem?_eq_getElem hlt)
          have := e3 R[R.length - 1] (by rw [List.getLast?_eq_getElem?]; exact List.getElem?_eq_getElem hlt)
          have e : (R[R.length - 1].High == (i : Int) - 1) = false := by simp; omega
          simp only [decide_eq_true h0, ifB_true, hg, Option.bind_some, e, fin_inl]
        · simp only [decide_eq_false h0, ifB_false, Option.bind_some, fin_inl]
      rw [c]
      simp only [ifB_false, ifB_true]
      rw [appM_of (by simp; omega) (by omega)]
      exact ⟨R ++ [⟨i, i⟩], (i, out), rfl, rfl, by simp; omega, by simp only; omega, .inr ⟨i, R, rfl, by omega, by simp, e2⟩⟩
    · simp only at e1 e4
      subst e1
      have c0 : decide ((k : Int) < 0) = false := by simp
      have hR0 : R.length = R0.length + 1 := by rw [e3]; simp
      have h0 : (R.length : Int) - 1 ≥ 0 := by omega
      have hg : getI R ((R.length : Int) - 1) = some ⟨k, (i : Int) - 1⟩ := getI_of (n := R0.length) (by omega) (by rw [e3]; simp)
      simp only [decide_eq_true h0, ifB_true, hg, Option.bind_some, beq_self_eq_true, fin_inl, c0, ifB_false]
      refine ⟨_, (k, out), rfl, rfl, by simp; omega, by simp only; omega, .inr ⟨k, R0, rfl, by omega, ?_, e4⟩⟩
      rw [show ((R.length : Int) - 1).toNat = R0.length by omega, e3]
      simp
theorem Silent_spec {bs : List TBar} {t : List TTone} {n : Int} (hb : ∀ x ∈ bs, bad x = false) (hl : bs.length ≤ 600) (hf : Fills bs t false) (hk : m_piece_CheckTones bs t = some 0) (hn : outB n 1 300 = false) :
    ∃ v, m_piece_Silent bs t n = some (v, 0) ∧ m_gleeref2_SilentOf bs t n = some v := by
  obtain ⟨gs, g1, g2, -, g4⟩ := inBars_eq hb hl hf
  have hgl : gs.length = bs.length := by have := congrArg List.length g4; simpa using this
  obtain ⟨R, s, h1, h2, h3⟩ := rangeM_rel2z m_piece_Silent_l1 (m_gleeref2_SilentOf_l1 n) gs [[(TTone.mk 0 (TFraction.mk 0 0) ByteArray.empty false)]] (fun i R s => SilR n i R s) (fun i x R s hx h => by
    have : i < gs.length := (List.getElem?_eq_some_iff.1 hx).1
    exact silent_step n i (by omega) x R s h) [] (-1, []) ⟨by simp, by simp, .inl ⟨rfl, rfl, fun r hr => by simp at hr⟩⟩
  have hdel : ∀ u, m_slices_DeleteFunc_api_Range_api_Range__piece_Silent_2 u n = dfM (TRange.mk 0 0) (fun r => m_piece_Silent_2 r n) u := fun _ => rfl
  have hRl := h3.len
  have hA : m_piece_Silent bs t n = some (R.filter (lgR n), 0) := by
    unfold m_piece_Silent
    simp only [hk, Option.bind_some, bne_self_eq_false, ifB_false, Outside_spec, hn, g1, h1, fin_brk, hdel]
    rw [dfM_spec _ (fun r => m_piece_Silent_2 r n) (fun r => decide (w64 (w64 (r.High - r.Low) + 1) < n)) R (by omega) (fun _ _ => rfl)]
    rfl
  refine ⟨_, hA, ?_⟩
  unfold m_gleeref2_SilentOf
  simp only [g2, Option.bind_some]
  rw [appM_of (by simp; omega) (by omega)]
  simp only [Option.bind_some]
  rw [h2]
  obtain ⟨R', s', e1, e2, e3⟩ := silent_step n gs.length (by omega) [(TTone.mk 0 (TFraction.mk 0 0) ByteArray.empty false)] R s h3
  have e1' : m_piece_Silent_l1 gs.length [(TTone.mk 0 (TFraction.mk 0 0) ByteArray.empty false)] R = some (.nxt R) := rfl
  rw [e1'] at e1
  cases e1
  rw [rangeM_cons, e2]
  show some s'.2 = _
  rcases e3.st with ⟨-, f2, -⟩ | ⟨k, R0, f1, f2, f3, -⟩
  · rw [f2]
  · -- the last one is sung
    exfalso
    rcases h3.st with ⟨a1, a2, a3⟩ | ⟨k', R0', a1, a2, a3, a4⟩
    · have := a3 ⟨k, ((gs.length + 1 : Nat) : Int) - 1⟩ (by rw [f3]; simp)
      simp only at this
      push_cast at this
      omega
    · rw [a3] at f3
      have := congrArg List.getLast? f3
      simp at this
      omega
theorem EqualR_refl (xs : List TRange) : m_slices_Equal_api_Range_api_Range xs xs = some true := by
  unfold m_slices_Equal_api_Range_api_Range
  have h : ((xs.length : Int) != (xs.length : Int)) = false := by simp
  rw [h, ifB_false]
  obtain ⟨s', h1, -⟩ := rangeM_invx (m_slices_Equal_api_Range_api_Range_l1 xs) xs (fun _ _ => True) (fun i x s hx _ => ⟨s, by
    unfold m_slices_Equal_api_Range_api_Range_l1
    rw [getI_of rfl hx, Option.bind_some]
    simp, trivial⟩) () trivial
  rw [h1]; rfl
/-! ### a drawn time; the row -/
theorem ATime_spec (L : List Int) {p : Int} (hp : 0 ≤ p) (hp' : p ≤ 100000000) : ∃ f q, m_gleemake_Stream_ATime L p = some (f, q) ∧ inR f.Num ∧ inR f.Den ∧ p ≤ q ∧ q ≤ p + 5 := by
  obtain ⟨b, hb⟩ := Flip_spec L (p := p) (n := 12) (by omega) (by omega) (by omega)
  unfold m_gleemake_Stream_ATime
  rw [hb]
  simp only [Option.bind_some]
  cases b with
  | true =>
    obtain ⟨j, hj, hj1, hj2⟩ := Next_spec L (p := p + 1) (n := 7) (by omega) (by omega) (by omega)
    have hj2 := hj2 (by omega)
    simp only [ifB_true, hj, Option.bind_some]
    have : j = 0 ∨ j = 1 ∨ j = 2 ∨ j = 3 ∨ j = 4 ∨ j = 5 ∨ j = 6 := by omega
    rcases this with rfl | rfl | rfl | rfl | rfl | rfl | rfl <;> exact ⟨_, _, rfl, ⟨by decide, by decide⟩, ⟨by decide, by decide⟩, by omega, by omega⟩
  | false =>
    obtain ⟨v, hv, hvm⟩ := Pick_spec L (p := p + 1) [0, 24, 48, 96, 100, 192, 250, 384, 700] (by omega) (by omega) (by simp) (by simp)
    have hv0 : 0 ≤ v ∧ v ≤ 700 := by
      simp only [List.mem_cons, List.not_mem_nil, or_false] at hvm
      omega
    obtain ⟨m, rfl⟩ : ∃ m : Nat, v = m := ⟨v.toNat, by omega⟩
    have h2 := refLowest_spec m 192 (by omega) (by omega) (by omega)
    simp only [ifB_false, hv, Option.bind_some]
    rw [show (192 : Int) = ((192 : Nat) : Int) from rfl, h2]
    have h3 := lowF_inR m (by omega)
    exact ⟨_, _, rfl, h3.1, h3.2, by omega, by omega⟩
theorem when_spec (b : Bool) (n : Int) : m_gleelaw2_when b n = some (bif b then n else 0) := by cases b <;> rfl
theorem errs_l (k n : Int) (h : k ≠ 0) : m_gleelaw2_errs [k, n] = some k := by
  have : (k != 0) = true := by simpa using h
  unfold m_gleelaw2_errs
  rw [rangeM_cons]
  unfold m_gleelaw2_errs_l1
  rw [this]; rfl
theorem errs_r (n : Int) : m_gleelaw2_errs [0, n] = some n := by
  unfold m_gleelaw2_errs
  rw [rangeM_cons]
  show (rangeM m_gleelaw2_errs_l1 1 [n] ()).bind _ = _
  rw [rangeM_cons]
  unfold m_gleelaw2_errs_l1
  by_cases h : n = 0
  · subst h; rfl
  · have : (n != 0) = true := by simpa using h
    rw [this]; rfl
theorem TonesSound_true (L : List Int) : m_gleelaw2_TonesSound L = some true := by
  obtain ⟨bs, p, hbs, hbl, hp, hp'⟩ := Bars_spec L
  obtain ⟨t, q, ht, hq1, hq2, htl, htok⟩ := Tones_spec L bs (p := p) hbl hp (by omega)
  obtain ⟨a, ha, -⟩ := Pick_spec L (p := q) [0, 5, (-12), 60, 64, (-60), (-128), 128] (by omega) (by omega) (by simp) (by simp)
  obtain ⟨f, r, hf, hf1, hf2, hr1, hr2⟩ := ATime_spec L (p := q + 1) (by omega) (by omega)
  obtain ⟨n, hn, -⟩ := Pick_spec L (p := r) [1, 1, 2, 0, 301] (by omega) (by omega) (by simp) (by simp)
  obtain ⟨k, k1, k2, k3⟩ := CheckTones_spec bs (by omega) t htok (by omega)
  unfold m_gleelaw2_TonesSound
  simp only [hbs, Option.bind_some, ht, ha, hf, hn, k2]
  have hwhen : ∀ (e : Int) (K : Int → Option Bool), (∀ m, m_gleelaw2_errs [k, m] = some (if k ≠ 0 then k else m)) → e = (if k ≠ 0 then k else bif outB n 1 300 then 1 else 0) →
      ((ifB (decide (n < 1)) ((m_gleelaw2_when true 1).bind fun y22 => (m_gleelaw2_errs [k, y22]).bind fun y24 => some (.inl y24)) ((m_gleelaw2_when (decide (n > 300)) 1).bind fun y25 => (m_gleelaw2_errs [k, y25]).bind fun y27 => some (.inl y27)) : Option (Int ⊕ Bool)).bind fun k21 => Sum.fin k21 K) = K e := by
    intro e K he h
    subst h
    unfold outB
    simp only [when_spec, he, Option.bind_some]
    cases decide (n < 1) <;> simp only [ifB_true, ifB_false, Option.bind_some, fin_inl, Bool.false_or, Bool.true_or, cond_true]
  by_cases hk : k = 0
  · obtain ⟨hc, hfl⟩ := k3 hk
    subst hk
    obtain ⟨-, rr, hg, -⟩ := cB_zero hc
    have hb := goB_all bs _ rr hg
    obtain ⟨s, s1, s2⟩ := Shift_spec (a := a) (by omega) k1
    obtain ⟨u, e, u1, u2, u3, u4⟩ := Sounds_spec (f := f) hb (by omega) hfl.good hf1 hf2 k1
    obtain ⟨l, l1, l2⟩ := Lyrics_spec hc hfl htok k1
    rw [s1, u1, l1]
    simp only [Option.bind_some, bne_self_eq_false, beq_self_eq_true, ifB_true, s2, l2, u2]
    have hsnd : ∀ (K : Int × Int × Int × Int × Bool × ByteArray × List TTone → Option Bool), ((ifB (e == 0) ((m_gleeref2_SoundsOf t f).bind fun y36 => some (.inl (s.2, e, l.2, y36.1, y36.2, l.1, s.1))) (some (.inl (s.2, e, l.2, 0, false, l.1, s.1))) : Option ((Int × Int × Int × Int × Bool × ByteArray × (List TTone)) ⊕ Bool)).bind fun k31 => Sum.fin k31 K) = K (s.2, e, l.2, u.1, u.2, l.1, s.1) := by
      intro K
      by_cases he : e = 0
      · subst he
        rw [u3 rfl]; rfl
      · have : (e == 0) = false := by simpa using he
        rw [this, u4 he]; rfl
    cases hout : outB n 1 300 with
    | false =>
      obtain ⟨v, v1, v2⟩ := Silent_spec hb (by omega) hfl k1 hout
      rw [v1]
      simp only [Option.bind_some]
      rw [hwhen 0 _ (fun m => by rw [errs_r]; simp) (by rw [hout]; simp)]
      simp only [beq_self_eq_true, ifB_true]
      rw [hsnd]
      simp only [v2, Option.bind_some, fin_inl, beq_self_eq_true, ifB_true, EqualT_refl, EqualR_refl, written_spec]
    | true =>
      have hS : m_piece_Silent bs t n = some ([], 1) := by
        unfold m_piece_Silent
        simp only [k1, Option.bind_some, bne_self_eq_false, ifB_false, Outside_spec, hout, ifB_true]
      rw [hS]
      simp only [Option.bind_some]
      rw [hwhen 1 _ (fun m => by rw [errs_r]; simp) (by rw [hout]; simp)]
      rw [hsnd]
      simp only [show ((1 : Int) == 0) = false from rfl, ifB_false, Option.bind_some, fin_inl, beq_self_eq_true, ifB_true, EqualT_refl, EqualR_refl, written_spec]
  · have hkb : (k != 0) = true := by simpa using hk
    have hkb' : (k == 0) = false := by simpa using hk
    unfold m_piece_Shift m_piece_Sounds m_piece_Lyrics m_piece_Silent
    simp only [k1, Option.bind_some, hkb, ifB_true]
    rw [hwhen k _ (fun m => by rw [errs_l k m hk]; simp [hk]) (by simp [hk])]
    simp only [hkb', ifB_false, Option.bind_some, fin_inl, beq_self_eq_true, ifB_true, EqualT_refl, EqualR_refl, written_spec]
end Go.G
