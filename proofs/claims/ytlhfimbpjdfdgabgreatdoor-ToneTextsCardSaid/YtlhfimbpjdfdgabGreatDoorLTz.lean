/- LTz: ToneTexts' law, closed. In plain Lean, no program in sight. -/
import Derived.Test.YtlhfimbpjdfdgabGreatDoorLTt
namespace Go.G
open Go Go.J
set_option linter.unusedSimpArgs false
set_option linter.unusedVariables false
theorem toneG_I : ∀ i s x z, toneJ i s → toneG i s x = some z → toneJ (i + 1) z := by
  intro i s x z h1 h2
  unfold toneG at h2
  obtain ⟨ts, h3, rfl⟩ := Option.map_eq_some_iff.1 h2
  unfold toneJ at *
  simp; omega
theorem rangeM_cg {α σ ρ : Type} {f g : Nat → α → σ → Option (Flow σ ρ)} {xs : List α} (h : ∀ (i : Nat) x s, xs[i]? = some x → f i x s = g i x s) (s : σ) : rangeM f 0 xs s = rangeM g 0 xs s := by
  have key : ∀ (t : List α) (i : Nat) (s : σ), xs.drop i = t → rangeM f i t s = rangeM g i t s := by
    intro t
    induction t with
    | nil => intro i s _; rfl
    | cons x t ih =>
      intro i s hd
      have hx : xs[i]? = some x := by
        have := congrArg (fun l => l[0]?) hd
        simpa using this
      have ht : xs.drop (i + 1) = t := by
        have := congrArg List.tail hd
        simpa [List.tail_drop] using this
      rw [rangeM_cons, rangeM_cons, h i x s hx]
      congr 1
      funext fl
      cases fl with
      | nxt s' => exact ih (i + 1) s' ht
      | brk s' => rfl
      | ret v => rfl
  exact key xs 0 s rfl
theorem ConcatT (gs : List (List TTone)) (h : (List.flatten gs).length ≤ 1000000000) : m_slices_Concat_api_Tone_api_Tone gs = some (List.flatten gs) := by
  have k1 : ∀ (l : List (List TTone)) (i : Nat) (u : Int), 0 ≤ u → u + ((List.flatten l).length : Int) ≤ 10000000000 → rangeM m_slices_Concat_api_Tone_api_Tone_l1 i l u = some (.brk (u + ((List.flatten l).length : Int))) := by
    intro l
    induction l with
    | nil => intro i u _ _; simp
    | cons g l ih =>
      intro i u hu hb
      simp only [List.flatten_cons, List.length_append, Int.natCast_add] at hb
      have e : m_slices_Concat_api_Tone_api_Tone_l1 i g u = some (.nxt (u + (g.length : Int))) := by
        unfold m_slices_Concat_api_Tone_api_Tone_l1
        rw [w64_id (by omega), decide_eq_false (by omega), ifB_false]
      rw [rangeM_cons, e, Option.bind_some, run_nxt, ih (i + 1) _ (by omega) (by omega)]
      simp only [List.flatten_cons, List.length_append, Int.natCast_add, Int.add_assoc]
  have k2 : ∀ (l : List (List TTone)) (i : Nat) (u : List TTone), u.length + (List.flatten l).length ≤ 10000000000 → rangeM m_slices_Concat_api_Tone_api_Tone_l2 i l u = some (.brk (u ++ List.flatten l)) := by
    intro l
    induction l with
    | nil => intro i u _; simp
    | cons g l ih =>
      intro i u hb
      simp only [List.flatten_cons, List.length_append] at hb
      have e : m_slices_Concat_api_Tone_api_Tone_l2 i g u = some (.nxt (u ++ g)) := by
        unfold m_slices_Concat_api_Tone_api_Tone_l2
        rw [appM_of (by omega) (by omega)]; rfl
      rw [rangeM_cons, e, Option.bind_some, run_nxt, ih (i + 1) _ (by rw [List.length_append]; omega)]
      simp
  unfold m_slices_Concat_api_Tone_api_Tone
  rw [k1 gs 0 0 (Int.le_refl _) (by omega), Option.bind_some, fin_brk, Int.zero_add]
  have hg : m_slices_Grow_api_Tone_api_Tone__nil ((List.flatten gs).length : Int) = some [] := by
    unfold m_slices_Grow_api_Tone_api_Tone__nil
    rw [decide_eq_false (by omega), ifB_false, show w64 (0 - 0) = 0 from rfl, w64_id (by omega)]
    by_cases h0 : ((List.flatten gs).length : Int) - 0 > 0
    · have hgr : growM 48 (((List.flatten gs).length : Int) - 0) = some () := by
        unfold growM
        rw [if_pos ⟨by omega, by omega, by unfold maxLen; omega⟩]
      rw [decide_eq_true h0, ifB_true, hgr]
      rfl
    · rw [decide_eq_false h0, ifB_false]
  rw [hg, Option.bind_some, k2 gs 0 [] (by rw [List.length_nil]; omega), List.nil_append]
  rfl
theorem fill_big (bars : List TBar) (t : List TTone) (h : 2000 < t.length) : m_piece_checkTones bars t false = some 2 ∧ m_gleeref2_fillFault bars t false = some 2 := by
  unfold m_piece_checkTones m_gleeref2_fillFault
  have h2 : (t.length : Int) > 2000 := by omega
  exact ⟨by simp [h2], by simp [h2]⟩
/-- what is behind the lines: both ways -/
theorem behind {bars : List TBar} (hc : cB bars = 0) (ls : List (List TTone)) (hl : ls.length = bars.length) (hok : ∀ l ∈ ls, ∀ z ∈ l, TOk z) (hs : ∀ l ∈ ls, l.length ≤ 200001) :
    ∃ r, ((m_piece_checkTones bars (List.flatten ls) false).bind fun y50 => ifB (y50 != 0) (some (([] : List TTone), (0 : Int), y50)) ((m_piece_inBars bars (List.flatten ls)).bind fun y53 => (rangeM (m_piece_Read_l3 (asF ls)) 0 y53 ()).bind fun f62 => Flow.fin f62 fun u59 => some (List.flatten ls, 0, 0))) = some r ∧
      ((m_slices_Concat_api_Tone_api_Tone ls).bind fun y15 => (m_gleeref2_TonesFault bars y15).bind fun y17 => ifB (y17 != 0) (some (([] : List TTone), (0 : Int), y17)) ((m_gleeref2_InBarsOf bars y15).bind fun y20 => (rangeM (m_gleeref2_TonesRead_l1 (0, true, ls)) 0 y20 ()).bind fun f29 => Flow.fin f29 fun u26 => some (y15, 0, 0))) = some r := by
  obtain ⟨hbl, rr, hgb, -⟩ := cB_zero hc
  have hbad := goB_all bars _ rr hgb
  have hfl : (List.flatten ls).length ≤ 200001 * ls.length := by
    clear hl hok
    induction ls with
    | nil => simp
    | cons l t ih =>
      have h1 := hs l (List.mem_cons_self ..)
      have h2 := ih fun y hy => hs y (List.mem_cons_of_mem _ hy)
      simp only [List.flatten_cons, List.length_append, List.length_cons]
      omega
  rw [ConcatT ls (by omega), Option.bind_some]
  have hTF : m_gleeref2_TonesFault bars (List.flatten ls) = m_gleeref2_fillFault bars (List.flatten ls) false := by
    unfold m_gleeref2_TonesFault
    rw [BarsFault_spec bars (by omega), hc, Option.bind_some]
    rw [show ((0 : Int) != 0) = false from rfl, ifB_false]
    cases m_gleeref2_fillFault bars (List.flatten ls) false <;> rfl
  rw [hTF]
  by_cases hbig : 2000 < (List.flatten ls).length
  · obtain ⟨g1, g2⟩ := fill_big bars _ hbig
    rw [g1, g2]
    exact ⟨_, rfl, rfl⟩
  have hTOk : ∀ x ∈ List.flatten ls, TOk x := fun x hx => by
    obtain ⟨l, h1, h2⟩ := List.mem_flatten.1 hx
    exact hok l h1 x h2
  obtain ⟨k, g1, g2, g3⟩ := fill_spec bars hbad (by omega) (List.flatten ls) false hTOk (by omega)
  rw [g1, g2, Option.bind_some, Option.bind_some]
  by_cases hk : k = 0
  · obtain ⟨gs, k1, k2, k3, k4⟩ := inBars_eq hbad (by omega) (g3 hk)
    rw [hk, show ((0 : Int) != 0) = false from rfl, ifB_false, ifB_false, k1, k2, Option.bind_some, Option.bind_some]
    have hgl : gs.length = bars.length := by
      have := congrArg List.length k4
      simpa using this
    have hstep : ∀ (i : Nat) x s, gs[i]? = some x → m_piece_Read_l3 (asF ls) i x s = (fun i x (_ : Unit) => (some (if x.length = (ls[i]?.map List.length).getD 0 then .nxt () else .ret ([], 0, 3)) : Option (Flow Unit ((List TTone) × Int × Int)))) i x s := by
      intro i x s hx
      have hi := (List.getElem?_eq_some_iff.1 hx).1
      have hg : ls[i]? = some (ls[i]'(by omega)) := List.getElem?_eq_getElem (by omega)
      unfold m_piece_Read_l3 asF
      simp only
      rw [getI_of (n := i) rfl (show (ls.map fun l => (l.length : Int))[i]? = some ((ls[i]'(by omega)).length : Int) by rw [List.getElem?_map, hg]; rfl), Option.bind_some, hg]
      simp only [Option.map_some, Option.getD_some]
      by_cases he : x.length = (ls[i]'(by omega)).length
      · rw [if_pos he, he]; simp
      · rw [if_neg he, show ((x.length : Int) != ((ls[i]'(by omega)).length : Int)) = true by rw [bne_iff_ne]; omega]; rfl
    have hstep2 : ∀ (i : Nat) x s, gs[i]? = some x → m_gleeref2_TonesRead_l1 (0, true, ls) i x s = (fun i x (_ : Unit) => (some (if x.length = (ls[i]?.map List.length).getD 0 then .nxt () else .ret ([], 0, 3)) : Option (Flow Unit ((List TTone) × Int × Int)))) i x s := by
      intro i x s hx
      have hi := (List.getElem?_eq_some_iff.1 hx).1
      have hg : ls[i]? = some (ls[i]'(by omega)) := List.getElem?_eq_getElem (by omega)
      unfold m_gleeref2_TonesRead_l1
      simp only
      rw [getI_of rfl hg, Option.bind_some, hg]
      simp only [Option.map_some, Option.getD_some]
      by_cases he : x.length = (ls[i]'(by omega)).length
      · rw [if_pos he, he]; simp
      · rw [if_neg he, show ((x.length : Int) != ((ls[i]'(by omega)).length : Int)) = true by rw [bne_iff_ne]; omega]; rfl
    rw [rangeM_cg hstep (), rangeM_cg hstep2 ()]
    obtain ⟨f, h1, hf⟩ := rangeM_stop (fun i (x : List TTone) (_ : Unit) => (some (if x.length = (ls[i]?.map List.length).getD 0 then .nxt () else .ret ([], 0, 3)) : Option (Flow Unit ((List TTone) × Int × Int)))) gs (fun _ _ => True) (fun f => match f with | .nxt _ => False | _ => True) (by
      intro i x s _ _
      exact ⟨_, rfl, fun _ _ => trivial, fun _ _ => trivial, fun _ _ => trivial⟩) (fun _ _ => trivial) () trivial
    rw [h1, Option.bind_some]
    cases f with
    | nxt s => exact hf.elim
    | brk s => exact ⟨_, rfl, rfl⟩
    | ret v => exact ⟨_, rfl, rfl⟩
  · rw [show (k != 0) = true from bne_iff_ne.2 hk]
    exact ⟨_, rfl, rfl⟩
/-! texts are read -/
theorem Read_both (bars : List TBar) (hbl : bars.length ≤ 600) (t : ByteArray) : ∃ r, m_piece_Read bars t = some r ∧ m_gleeref2_TonesRead bars t = some r := by
  unfold m_piece_Read m_gleeref2_TonesRead
  rw [CheckBars_spec bars hbl, BarsFault_spec bars hbl, Option.bind_some, Option.bind_some]
  by_cases hc : cB bars = 0
  case neg =>
    rw [show (cB bars != 0) = true from bne_iff_ne.2 hc]
    exact ⟨_, rfl, rfl⟩
  rw [hc, show ((0 : Int) != 0) = false from rfl, ifB_false, ifB_false]
  by_cases hbig : t.size > 200000
  · rw [decide_eq_true (by omega)]
    exact ⟨_, rfl, rfl⟩
  rw [decide_eq_false (by omega), ifB_false, ifB_false, kitLines_spec t (by omega)]
  obtain ⟨hb300, -⟩ := cB_zero hc
  have hsz : t.data.toList.length ≤ 200000 := by rw [← size_data]; omega
  have hP := lines_len t.data.toList
  have hx : ∀ x ∈ linesOf t.data.toList, x.length ≤ 200000 := fun x hx => Nat.le_trans (lines_size hx) hsz
  have hleft : (leftOf t.data.toList).length ≤ 200000 := Nat.le_trans (left_size _) hsz
  have hrl := refLoop m_gleeref2_Lines__gleeref2_TonesRead_1_l1 toneG toneJ (fun v i => v.1 = i ∧ v.2.1 = false) toneG_I (by
      intro i s
      unfold m_gleeref2_Lines__gleeref2_TonesRead_1_l1
      simp only
      rw [ba_nil, data_toB]; rfl) (by
      intro i s l h hl
      unfold m_gleeref2_Lines__gleeref2_TonesRead_1_l1
      simp only
      rw [ba_nil, data_toB, decide_eq_false h, show (ByteArray.mk [10].toArray) = oneB 10 from rfl, Cut_miss (c := 10) (s := toB l) hl]
      exact ⟨_, rfl, rfl, rfl⟩) (by
      intro i s x r hI hx1 hx2 hj hi
      obtain ⟨y, hy1, hy2, hy3⟩ := closure_spec x s hx2 (by unfold toneJ at hI; omega)
      unfold m_gleeref2_Lines__gleeref2_TonesRead_1_l1
      simp only
      rw [ba_nil, data_toB, decide_eq_false (by simp), Bool.not_false, ifB_true, show (ByteArray.mk [10].toArray) = oneB 10 from rfl, Cut_hit (data_toB _) hx1 (by rw [toB_size]; omega), Option.bind_some]
      simp only [Bool.not_true, ifB_false]
      rw [hy1, Option.bind_some, Option.bind_some, fin_inl]
      simp only
      rw [hy2]
      unfold toneG
      cases hp : lineT x with
      | none => exact ⟨_, rfl, _, rfl, rfl, rfl⟩
      | some z =>
        have := hy3 z hp
        subst this
        simp only [Option.isSome_some, Bool.not_true, ifB_false, Option.map_some]
        refine ⟨_, rfl, ?_⟩
        rw [w64_id (by omega)]
        simp) (leftOf t.data.toList) (leftOf_nl _) (linesOf t.data.toList) 0 [] (fun x hx => ⟨linesOf_nl hx, Nat.le_trans (lines_size hx) hsz⟩) (by rw [text_of]; exact hsz) (by simp [toneJ]) (by omega)
  rw [text_of, toB_data] at hrl
  unfold m_gleeref2_Lines__gleeref2_TonesRead_1
  have hrd2 := rd_two (linesOf t.data.toList) 0 []
  rw [show asF [] = (([], []) : TS) from rfl] at hrd2
  rw [show ((0 : Nat) : Int) = 0 from rfl] at hrl
  by_cases h0 : t.data.toList = []
  · have e1 : linesOf t.data.toList = [] := by rw [h0]; rfl
    have e2 : leftOf t.data.toList = [] := by rw [h0]; rfl
    rw [e1, e2] at hrl
    simp only [rdL, if_true] at hrl
    rw [if_pos h0, hrl]
    simp only [Option.bind_some, rangeM_nil, fin_brk, Bool.not_true, ifB_false]
    by_cases hb0 : bars = []
    · have hbe := behind hc [] (by rw [hb0]; rfl) (by simp) (by simp)
      rw [show (((([] : List ByteArray).length : Nat) : Int) != (bars.length : Int)) = false by rw [hb0]; rfl, show (((([] : List (List TTone)).length : Nat) : Int) != (bars.length : Int)) = false by rw [hb0]; rfl, ifB_false, ifB_false]
      exact hbe
    · have hpos := List.length_pos_iff.2 hb0
      rw [show (((([] : List ByteArray).length : Nat) : Int) != (bars.length : Int)) = true by rw [bne_iff_ne]; simp; omega, show (((([] : List (List TTone)).length : Nat) : Int) != (bars.length : Int)) = true by rw [bne_iff_ne]; simp; omega]
      exact ⟨_, rfl, rfl⟩
  rw [if_neg h0]
  by_cases hl : leftOf t.data.toList = []
  · rw [if_pos hl, Option.bind_some]
    have hr := progLoop (m_piece_Read_l1 ((linesOf t.data.toList).map toB, true)) toneF toneI (fun k => ([], (k : Int), 9)) (linesOf t.data.toList).length toneF_I (fun i s x hI hx hi => by
      unfold toneI at hI
      rw [Read_l1 ((linesOf t.data.toList).map toB) true i s x ⟨by omega, by omega⟩ hx (by rw [List.length_map]; omega) (fun h => by cases h)]
      cases toneF i s x <;> rfl) [] (linesOf t.data.toList) 0 ([], []) hx (by simp [toneI]) (by omega)
    rw [List.append_nil] at hr
    simp only
    rw [hr, hrd2]
    cases hrd : rdL toneG 0 (linesOf t.data.toList) [] with
    | inl k =>
      rw [hrd] at hrl
      obtain ⟨v, h1, h2, h3⟩ := hrl
      rw [h1]
      simp only [Option.bind_some, Flow.fin, h3, Bool.not_false, ifB_true, fin_inl, h2]
      exact ⟨_, rfl, rfl⟩
    | inr ls =>
      rw [hrd] at hrl
      simp only at hrl
      rw [if_pos hl] at hrl
      rw [hrl]
      simp only [rangeM_nil, Option.bind_some, fin_brk, Bool.not_true, ifB_false]
      obtain ⟨g1, g2⟩ := rdG_ok (linesOf t.data.toList) 0 [] ls hx (by simp) hrd
      have g3 : ∀ (P : List BL) (i : Nat) (u v : List (List TTone)), (∀ l ∈ u, l.length ≤ 200001) → rdL toneG i P u = .inr v → ∀ l ∈ v, l.length ≤ 200001 := by
        intro P
        induction P with
        | nil => intro i u v h hv; simp [rdL] at hv; subst hv; exact h
        | cons x t ih =>
          intro i u v h hv
          unfold rdL toneG at hv
          cases hl : lineT x with
          | none => rw [hl] at hv; cases hv
          | some ts =>
            rw [hl] at hv
            exact ih (i + 1) (u ++ [ts]) v (fun l hl' => by
              rcases List.mem_append.1 hl' with g | g
              · exact h l g
              · rw [List.mem_singleton.1 g]; exact (lineT_len hl).1) hv
      have g4 := g3 _ _ _ _ (by simp) hrd
      rw [List.length_map]
      have e : ls.length = (linesOf t.data.toList).length := by simpa using g1
      rw [e]
      by_cases hn : (linesOf t.data.toList).length = bars.length
      · rw [show (((linesOf t.data.toList).length : Int) != (bars.length : Int)) = false by rw [hn]; simp, ifB_false, ifB_false]
        exact behind hc ls (by omega) g2 g4
      · rw [show (((linesOf t.data.toList).length : Int) != (bars.length : Int)) = true by rw [bne_iff_ne]; omega]
        exact ⟨_, rfl, rfl⟩
  · rw [if_neg hl, Option.bind_some]
    have hr := progLoop (m_piece_Read_l1 ((linesOf t.data.toList ++ [leftOf t.data.toList]).map toB, false)) toneF toneI (fun k => ([], (k : Int), 9)) (linesOf t.data.toList).length toneF_I (fun i s x hI hx hi => by
      unfold toneI at hI
      rw [Read_l1 ((linesOf t.data.toList ++ [leftOf t.data.toList]).map toB) false i s x ⟨by omega, by omega⟩ hx (by simp; omega) (fun _ => by simp; omega)]
      cases toneF i s x <;> rfl) [toB (leftOf t.data.toList)] (linesOf t.data.toList) 0 ([], []) hx (by simp [toneI]) (by omega)
    rw [show (linesOf t.data.toList ++ [leftOf t.data.toList]).map toB = (linesOf t.data.toList).map toB ++ [toB (leftOf t.data.toList)] by simp] at hr ⊢
    simp only
    rw [hr, hrd2]
    cases hrd : rdL toneG 0 (linesOf t.data.toList) [] with
    | inl k =>
      rw [hrd] at hrl
      obtain ⟨v, h1, h2, h3⟩ := hrl
      rw [h1]
      simp only [Option.bind_some, Flow.fin, h3, Bool.not_false, ifB_true, fin_inl, h2]
      exact ⟨_, rfl, rfl⟩
    | inr ls =>
      rw [hrd] at hrl
      simp only at hrl
      rw [if_neg hl] at hrl
      obtain ⟨v, h1, h2, h3⟩ := hrl
      rw [h1]
      have hI : toneI (0 + (linesOf t.data.toList).length) (asF ls) := rdL_inv toneF toneI toneF_I _ 0 ([], []) _ (by simp [toneI]) (by rw [hrd2, hrd])
      unfold toneI at hI
      simp only [rangeM_cons, rangeM_nil, Nat.zero_add]
      rw [Read_last ((linesOf t.data.toList).map toB ++ [toB (leftOf t.data.toList)]) (linesOf t.data.toList).length (asF ls) (leftOf t.data.toList) (by omega) hleft (by simp) (by simp; omega)]
      simp only [Option.bind_some, Flow.fin, Flow.run, h3, Bool.not_false, ifB_true, fin_inl, h2, Nat.zero_add]
      exact ⟨_, rfl, rfl⟩
/-! tones are written -/
def toneW (x : TTone) : BL := (if x.Note = -1 then [45] else Lib.itoa x.Note) ++ 58 :: (Lib.itoa x.Long.Num ++ 47 :: Lib.itoa x.Long.Den) ++ (if x.Tied = true then [126] else []) ++ (if bs x.Text = [] then [] else 58 :: bs x.Text)
structure TSz (x : TTone) : Prop where
  note : -9223372036854775808 ≤ x.Note ∧ x.Note ≤ 9223372036854775807
  num : -9223372036854775808 ≤ x.Long.Num ∧ x.Long.Num ≤ 9223372036854775807
  den : -9223372036854775808 ≤ x.Long.Den ∧ x.Long.Den ≤ 9223372036854775807
  text : (bs x.Text).length ≤ 20
theorem TGood.sz {x : TTone} (h : TGood x) : TSz x := by
  obtain ⟨h1, h2, h3, h4, h5, h6, -⟩ := h
  have hd : x.Long.Den ≤ 192 := by
    have h5 : (192 : Int) = x.Long.Den * (192 : Int).tdiv x.Long.Den := by have := Int.mul_tdiv_add_tmod 192 x.Long.Den; omega
    have h6 : 0 ≤ (192 : Int).tdiv x.Long.Den := Int.tdiv_nonneg (by omega) (by omega)
    have h7 : (192 : Int).tdiv x.Long.Den ≠ 0 := fun h => by rw [h] at h5; omega
    have h8 : x.Long.Den * 1 ≤ x.Long.Den * (192 : Int).tdiv x.Long.Den := Int.mul_le_mul_of_nonneg_left (by omega) (by omega)
    omega
  exact ⟨by omega, by omega, by omega, by unfold bs; rw [← size_data]; exact h6⟩
theorem toneW_len {x : TTone} (h : TSz x) : (toneW x).length ≤ 87 := by
  have h1 := itoa_len h.note; have h2 := itoa_len h.num; have h3 := itoa_len h.den; have h4 := h.text
  unfold toneW
  repeat' split
  all_goals
    simp only [List.length_append, List.length_cons, List.length_nil]
    omega
theorem both_toneText {x : TTone} (h : TSz x) : m_piece_toneText x = some (toB (toneW x)) ∧ m_gleeref2_toneText x = some (toB (toneW x)) := by
  have h1 := itoa_len h.note; have h2 := itoa_len h.num; have h3 := itoa_len h.den; have h4 := h.text
  have hn : ∀ N : BL, N.length ≤ 21 → ((catM (toB [58]) (toB (Lib.itoa x.Long.Num))).bind fun c7 => (catM c7 (toB [47])).bind fun c8 => ((some (toB (Lib.itoa x.Long.Den)) : Option ByteArray).bind fun y9 => (catM c8 y9).bind fun c10 => (catM (toB N) c10).bind fun c11 => (ifB x.Tied ((catM c11 (toB [126])).bind fun c15 => some (.inl c15)) (some (.inl c11)) : Option (ByteArray ⊕ ByteArray)).bind fun k14 => Sum.fin k14 fun u12 => ifB (!(x.Text.toList == ByteArray.empty.toList)) ((catM (toB [58]) x.Text).bind fun c16 => (catM u12 c16).bind fun c17 => some c17) (some u12))) = some (toB (N ++ 58 :: (Lib.itoa x.Long.Num ++ 47 :: Lib.itoa x.Long.Den) ++ (if x.Tied = true then [126] else []) ++ (if bs x.Text = [] then [] else 58 :: bs x.Text))) := by
    intro N hN
    rw [cat_is (by simp; omega), Option.bind_some, cat_is (by simp; omega), Option.bind_some, Option.bind_some, cat_is (by simp; omega), Option.bind_some, cat_is (by simp; omega), Option.bind_some, ba_nil, show x.Text.data.toList = bs x.Text from rfl]
    have e : N ++ (58 :: (Lib.itoa x.Long.Num ++ 47 :: Lib.itoa x.Long.Den)) = N ++ ([58] ++ Lib.itoa x.Long.Num ++ [47] ++ Lib.itoa x.Long.Den) := by simp
    rw [e]
    generalize hY : N ++ ([58] ++ Lib.itoa x.Long.Num ++ [47] ++ Lib.itoa x.Long.Den) = Y
    have hYl : Y.length ≤ 100 := by rw [← hY]; simp; omega
    have hT : ∀ (Z : BL), Z.length ≤ 200 → (ifB (!decide (bs x.Text = [])) ((catM (toB [58]) x.Text).bind fun c16 => (catM (toB Z) c16).bind fun c17 => some c17) (some (toB Z))) = some (toB (Z ++ (if bs x.Text = [] then [] else 58 :: bs x.Text))) := fun Z hZ => by
      by_cases h0 : bs x.Text = []
      · rw [decide_eq_true h0, if_pos h0, Bool.not_true, ifB_false, List.append_nil]
      · rw [decide_eq_false h0, if_neg h0, Bool.not_false, ifB_true]
        conv =>
          pattern catM _ x.Text
          rw [ba_bs x.Text]
        rw [cat_is (by simp; omega), Option.bind_some, cat_is (by simp; omega)]; rfl
    cases x.Tied with
    | true =>
      rw [ifB_true, cat_is (by simp; omega), Option.bind_some, Option.bind_some, fin_inl, hT _ (by simp; omega)]; rfl
    | false =>
      rw [ifB_false, Option.bind_some, fin_inl, hT _ (by omega)]; simp
  have e58 : ByteArray.mk [58].toArray = toB [58] := rfl
  have e47 : ByteArray.mk [47].toArray = toB [47] := rfl
  have e126 : ByteArray.mk [126].toArray = toB [126] := rfl
  have e45 : ByteArray.mk [45].toArray = toB [45] := rfl
  constructor
  · unfold m_piece_toneText toneW
    rw [Itoa_is h.note, Itoa_is h.num, Itoa_is h.den, e58, e47, e126, e45]
    by_cases hN : x.Note = -1
    · rw [show (x.Note != (-1)) = false by simp [hN], if_pos hN, ifB_false, Option.bind_some, fin_inl, Option.bind_some]
      exact hn [45] (by simp)
    · rw [show (x.Note != (-1)) = true by simpa using hN, if_neg hN, ifB_true, Option.bind_some, Option.bind_some, fin_inl, Option.bind_some]
      exact hn _ h1
  · unfold m_gleeref2_toneText toneW
    rw [Itoa_is h.note, Itoa_is h.num, Itoa_is h.den, e58, e47, e126, e45, Option.bind_some]
    by_cases hN : x.Note = -1
    · rw [show (x.Note == (-1)) = true by simp [hN], if_pos hN, ifB_true, Option.bind_some, fin_inl, Option.bind_some]
      exact hn [45] (by simp)
    · rw [show (x.Note == (-1)) = false by simpa using hN, if_neg hN, ifB_false, Option.bind_some, fin_inl, Option.bind_some]
      exact hn _ h1
def lineTB (g : List TTone) : BL := jn 32 (g.map toneW) ++ [10]
theorem jn_tones {g : List TTone} (h : ∀ x ∈ g, TSz x) : (jn 32 (g.map toneW)).length ≤ 88 * g.length := by
  have key : ∀ (g : List TTone), (∀ x ∈ g, TSz x) → ((g.map toneW).map (·.length + 1)).sum ≤ 88 * g.length := by
    intro g
    induction g with
    | nil => intro _; simp
    | cons x t ih =>
      intro h
      have h1 := ih fun y hy => h y (List.mem_cons_of_mem _ hy)
      have h2 := toneW_len (h x (List.mem_cons_self ..))
      simp only [List.map_cons, List.sum_cons, List.length_cons] at h1 ⊢
      omega
  exact Nat.le_trans (jn_len 32 (g.map toneW)) (key g h)
theorem words_prog {g : List TTone} (h : ∀ x ∈ g, TSz x) (hl : g.length ≤ 2000) : rangeM m_piece_Text_l2 0 g [] = some (.brk (g.map fun x => toB (toneW x))) := by
  obtain ⟨u, g1, g2⟩ := rangeM_invx m_piece_Text_l2 g (fun i u => u = (g.take i).map fun x => toB (toneW x)) (by
    rintro i x u hx rfl
    have hi := (List.getElem?_eq_some_iff.1 hx).1
    unfold m_piece_Text_l2
    rw [(both_toneText (h x (List.mem_of_getElem? hx))).1, Option.bind_some, appM_of (by simp; omega) (by omega), Option.bind_some]
    refine ⟨_, rfl, ?_⟩
    rw [List.take_add_one, hx]; simp) [] rfl
  rw [g1, g2, List.take_length]
theorem words_ref {g : List TTone} (h : ∀ x ∈ g, TSz x) (hl : g.length ≤ 2000) : rangeM m_gleeref2_ToneLines_l2 0 g [] = some (.brk (g.map fun x => toB (toneW x))) := by
  obtain ⟨u, g1, g2⟩ := rangeM_invx m_gleeref2_ToneLines_l2 g (fun i u => u = (g.take i).map fun x => toB (toneW x)) (by
    rintro i x u hx rfl
    have hi := (List.getElem?_eq_some_iff.1 hx).1
    unfold m_gleeref2_ToneLines_l2
    rw [(both_toneText (h x (List.mem_of_getElem? hx))).2, Option.bind_some, appM_of (by simp; omega) (by omega), Option.bind_some]
    refine ⟨_, rfl, ?_⟩
    rw [List.take_add_one, hx]; simp) [] rfl
  rw [g1, g2, List.take_length]
theorem map_tones (g : List TTone) : ((g.map fun x => toB (toneW x)).map fun y => y.data.toList) = g.map toneW := by simp [data_toB]
theorem text_line {g : List TTone} (h : ∀ x ∈ g, TSz x) (hl : g.length ≤ 2000) (i : Nat) (u : BL) (hu : u.length ≤ 700000) : m_piece_Text_l1 i g (toB u) = some (.nxt (toB (u ++ lineTB g))) ∧ m_gleeref2_ToneLines_l1 i g (toB u) = some (.nxt (toB (u ++ lineTB g))) := by
  have hj := jn_tones h
  constructor
  · unfold m_piece_Text_l1
    rw [words_prog h hl, Option.bind_some, fin_brk, kitJoin_spec _ (by simp; omega) (by rw [map_tones]; omega), map_tones, Option.bind_some, write_is (by simp only [List.length_append, List.length_cons, List.length_nil]; omega), Option.bind_some]; rfl
  · unfold m_gleeref2_ToneLines_l1
    rw [words_ref h hl, Option.bind_some, fin_brk, show (ByteArray.mk [32].toArray) = oneB 32 from rfl, Join_spec 32 _ (by simp; omega) (by rw [map_tones]; omega), map_tones, Option.bind_some, eN, cat_is (by simp only [List.length_cons, List.length_nil]; omega), Option.bind_some, cat_is (by simp only [List.length_append, List.length_cons, List.length_nil]; omega), Option.bind_some]; rfl
theorem flatT_len : ∀ {gs : List (List TTone)}, (∀ x ∈ List.flatten gs, TSz x) → (gs.flatMap lineTB).length ≤ 88 * (List.flatten gs).length + gs.length := by
  intro gs
  induction gs with
  | nil => intro _; simp
  | cons g t ih =>
    intro h
    have h1 := ih fun x hx => h x (by rw [List.flatten_cons]; exact List.mem_append_right _ hx)
    have h2 := jn_tones (g := g) fun x hx => h x (by rw [List.flatten_cons]; exact List.mem_append_left _ hx)
    have h3 : (lineTB g).length = (jn 32 (g.map toneW)).length + 1 := by unfold lineTB; simp
    simp only [List.flatMap_cons, List.flatten_cons, List.length_append, List.length_cons]
    omega
theorem flat_mem {gs : List (List TTone)} {i : Nat} {g : List TTone} (hg : gs[i]? = some g) : ∀ x ∈ g, x ∈ List.flatten gs := fun x hx => List.mem_flatten.2 ⟨g, List.mem_of_getElem? hg, hx⟩
theorem flat_le {gs : List (List TTone)} {n : Nat} (h : (List.flatten gs).length ≤ n) : ∀ g ∈ gs, g.length ≤ n := by
  intro g hg
  induction gs with
  | nil => cases hg
  | cons y t ih =>
    rw [List.flatten_cons, List.length_append] at h
    rcases List.mem_cons.1 hg with rfl | hg
    · omega
    · exact ih (by omega) hg
theorem take_flat {gs : List (List TTone)} (i : Nat) : (List.flatten (gs.take i)).length ≤ (List.flatten gs).length := by
  have : (List.flatten gs) = List.flatten (gs.take i) ++ List.flatten (gs.drop i) := by rw [← List.flatten_append, List.take_append_drop]
  rw [this, List.length_append]; omega
theorem lines_loops {gs : List (List TTone)} (h : ∀ x ∈ List.flatten gs, TSz x) (hl : (List.flatten gs).length ≤ 2000) (hg : gs.length ≤ 600) : rangeM m_piece_Text_l1 0 gs ByteArray.empty = some (.brk (toB (gs.flatMap lineTB))) ∧ rangeM m_gleeref2_ToneLines_l1 0 gs ByteArray.empty = some (.brk (toB (gs.flatMap lineTB))) := by
  have hb : ∀ i, ((gs.take i).flatMap lineTB).length ≤ 700000 := fun i => by
    have h1 := flatT_len (gs := gs.take i) fun x hx => by
      obtain ⟨l, g1, g2⟩ := List.mem_flatten.1 hx
      exact h x (List.mem_flatten.2 ⟨l, List.take_subset _ _ g1, g2⟩)
    have h2 := take_flat (gs := gs) i
    have h3 : (gs.take i).length ≤ gs.length := by rw [List.length_take]; omega
    omega
  constructor
  · obtain ⟨u, g1, g2⟩ := rangeM_invx m_piece_Text_l1 gs (fun i u => u = toB ((gs.take i).flatMap lineTB)) (by
      rintro i g u hx rfl
      refine ⟨_, (text_line (fun x hx' => h x (flat_mem hx x hx')) (flat_le hl g (List.mem_of_getElem? hx)) i _ (hb i)).1, ?_⟩
      rw [List.take_add_one, hx]
      simp [List.flatMap_append]) ByteArray.empty rfl
    rw [g1, g2, List.take_length]
  · obtain ⟨u, g1, g2⟩ := rangeM_invx m_gleeref2_ToneLines_l1 gs (fun i u => u = toB ((gs.take i).flatMap lineTB)) (by
      rintro i g u hx rfl
      refine ⟨_, (text_line (fun x hx' => h x (flat_mem hx x hx')) (flat_le hl g (List.mem_of_getElem? hx)) i _ (hb i)).2, ?_⟩
      rw [List.take_add_one, hx]
      simp [List.flatMap_append]) ByteArray.empty rfl
    rw [g1, g2, List.take_length]
theorem Text_both {bars : List TBar} {t : List TTone} (hbl : bars.length ≤ 300) (hbad : ∀ x ∈ bars, bad x = false) (h : Fills bars t false) (h0 : m_piece_CheckTones bars t = some 0) : ∃ w, m_piece_Text bars t = some (w, 0) ∧ m_gleeref2_ToneLines bars t = some w ∧ w.size ≤ 200000 := by
  obtain ⟨gs, g1, g2, g3, g4⟩ := inBars_eq hbad (by omega) h
  have hgl : gs.length = bars.length := by
    have := congrArg List.length g4
    simpa using this
  have hsz : ∀ x ∈ List.flatten gs, TSz x := fun x hx => (h.good x (by rw [g3]; exact hx)).sz
  have hlen := h.len
  have hf : (List.flatten gs).length ≤ 2000 := by rw [← g3]; exact hlen
  obtain ⟨k1, k2⟩ := lines_loops hsz hf (by omega)
  have hfl := flatT_len hsz
  refine ⟨toB (gs.flatMap lineTB), ?_, ?_, by rw [toB_size]; omega⟩
  · unfold m_piece_Text
    rw [h0, Option.bind_some, show ((0 : Int) != 0) = false from rfl, ifB_false, g1, Option.bind_some, k1, Option.bind_some, fin_brk, toB_size, decide_eq_false (by omega)]; rfl
  · unfold m_gleeref2_ToneLines
    rw [g2, Option.bind_some, k2, Option.bind_some, fin_brk]
theorem FillsR.fills {bars : List TBar} {t : List TTone} (h : FillsR bars t) : Fills bars t false := ⟨h.len, fun x hx => (h.rt x hx).good, h.seg, fun j x hx => by
  unfold badT
  cases ht : x.Tied with
  | false => rfl
  | true =>
    obtain ⟨y, h1, h2⟩ := h.tie j x hx ht
    rw [h1]
    simp [h2]⟩
theorem ToneText_spec (L : List Int) {bars : List TBar} {q : Int} (hb : bars.length ≤ 12) (hq : 0 ≤ q) (hq' : q ≤ 20000) : ∃ t q', m_gleemake_Stream_ToneText L q bars = some (t, q') := by
  unfold m_gleemake_Stream_ToneText
  rw [BarsFault_spec bars (by omega), Option.bind_some]
  by_cases hc : cB bars = 0
  case neg =>
    rw [show (cB bars != 0) = true from bne_iff_ne.2 hc]
    exact ⟨_, _, rfl⟩
  rw [hc, show ((0 : Int) != 0) = false from rfl, ifB_false]
  obtain ⟨hbl, rr, hgb, -⟩ := cB_zero hc
  have hbad := goB_all bars _ rr hgb
  obtain ⟨t, q1, h1, h2, h3, h4, h5, -⟩ := TonesFor_right L hb hc hq hq'
  have hF := h5.fills
  obtain ⟨gs, g1, g2, g3, g4⟩ := inBars_eq hbad (by omega) hF
  have hgl : gs.length = bars.length := by
    have := congrArg List.length g4
    simpa using this
  have hsz : ∀ x ∈ List.flatten gs, TSz x := fun x hx => (hF.good x (by rw [g3]; exact hx)).sz
  have hf : (List.flatten gs).length ≤ 2000 := by rw [← g3]; exact hF.len
  obtain ⟨-, k2⟩ := lines_loops hsz hf (by omega)
  have hfl := flatT_len hsz
  rw [h1, Option.bind_some]
  simp only
  unfold m_gleeref2_ToneLines
  rw [g2, Option.bind_some, k2, Option.bind_some, fin_brk, Option.bind_some]
  obtain ⟨v, h12, h13⟩ := Pick_spec L (p := q1) [0, 0, 1, 2] (by omega) (by omega) (by simp) (by simp)
  rw [h12, Option.bind_some]
  simp only
  have hv : 0 ≤ v ∧ v ≤ 2 := by
    simp only [List.mem_cons, List.not_mem_nil, or_false] at h13
    omega
  rw [rangeI_of (by omega), Option.bind_some]
  obtain ⟨s, g1, g2⟩ := rangeM_invx (m_gleemake_Stream_ToneText_l1 L) (List.range v.toNat) (fun i s => ∃ (t : ByteArray) (p : Int), s = (t, p) ∧ 0 ≤ p ∧ p ≤ q1 + 1 + 3 * i ∧ (i = 0 ∧ t.size ≤ 200000 ∨ i = 1 ∧ t.size ≤ 500000 ∨ i = 2)) (by
    rintro i y s hx ⟨t, p, rfl, g2, g3, g4⟩
    have hi : i < v.toNat := by have := (List.getElem?_eq_some_iff.1 hx).1; simpa using this
    unfold m_gleemake_Stream_ToneText_l1
    simp only
    obtain ⟨t', q', k1, k2, k3, k4⟩ := Changed_spec L (q := p) t (ByteArray.mk [32, 10, 58, 47, 126, 45, 48, 45, 57, 54, 97].toArray) (by omega) (by omega) (by omega) ⟨by decide, by decide⟩
    rw [k1, Option.bind_some]
    exact ⟨_, rfl, t', q', rfl, by omega, by omega, by omega⟩) (toB (gs.flatMap lineTB), q1 + 1) ⟨_, _, rfl, by omega, by omega, .inl ⟨rfl, by rw [toB_size]; omega⟩⟩
  rw [g1, Option.bind_some, fin_brk]
  exact ⟨_, _, rfl⟩
theorem EqualTn (xs : List TTone) : m_slices_Equal_api_Tone_api_Tone xs xs = some true := EqualT_refl xs
theorem ToneTexts_true (L : List Int) : m_gleelaw2_ToneTexts L = some true := by
  unfold m_gleelaw2_ToneTexts
  obtain ⟨bars, q1, h1, h2, h3, h4⟩ := Bars_spec L
  rw [h1, Option.bind_some]
  simp only
  obtain ⟨t, q2, h5, h6, h7, h8, h9⟩ := Tones_spec L bars (p := q1) h2 h3 (by omega)
  rw [h5, Option.bind_some]
  simp only
  obtain ⟨w, q3, h10⟩ := ToneText_spec L (bars := bars) (q := q2) h2 (by omega) (by omega)
  rw [h10, Option.bind_some]
  simp only
  obtain ⟨r, r1, r2⟩ := Read_both bars (by omega) w
  rw [r1, r2]
  have hb : ∀ a : ByteArray, (a.toList == a.toList) = true := fun a => by simp
  obtain ⟨k, k1, k2, k3⟩ := CheckTones_spec bars (by omega) t h9 (by omega)
  by_cases hk : k = 0
  · obtain ⟨hc, hF⟩ := k3 hk
    obtain ⟨hbl, rr, hgb, -⟩ := cB_zero hc
    obtain ⟨tx, t1, t2, -⟩ := Text_both hbl (goB_all bars _ rr hgb) hF (by rw [k1, hk])
    rw [t1, k2, hk, Option.bind_some, Option.bind_some, t2]
    simp only [beq_self_eq_true, ifB_true, Option.bind_some, fin_inl, hb, EqualTn, written_spec]
  · have ht : m_piece_Text bars t = some (ByteArray.empty, k) := by
      unfold m_piece_Text
      rw [k1, Option.bind_some, show (k != 0) = true from bne_iff_ne.2 hk, ifB_true]
    rw [ht, k2, Option.bind_some, Option.bind_some, show (k == 0) = false by simpa using hk, ifB_false]
    simp only [beq_self_eq_true, ifB_true, Option.bind_some, fin_inl, hb, EqualTn, written_spec]
end Go.G
