/- Plain laws of the models; no condition beyond what each theorem says. -/
import Derived.Test.YtlhfimbpjdfdgacGreatDoorLTc
import Derived.Test.YtlhfimbpjdfdgacGreatDoorLB2r
import Derived.Test.YtlhfimbpjdfdgacGreatDoorLU6c
import Derived.Test.YtlhfimbpjdfdgacGreatDoorLR1f
namespace Go.G
open Go Go.J
set_option linter.unusedSimpArgs false
set_option linter.unusedVariables false
noncomputable def behP (bars : List TBar) (ls : List (List TTone)) : Option ((List TTone) × Int × Int) := (m_piece_checkTones bars (List.flatten ls) false).bind fun y50 => ifB (y50 != 0) (some (([] : List TTone), (0 : Int), y50)) ((m_piece_inBars bars (List.flatten ls)).bind fun y53 => (rangeM (m_piece_Read_l3 (asF ls)) 0 y53 ()).bind fun f62 => Flow.fin f62 fun u59 => some (List.flatten ls, 0, 0))
theorem Read_prog (bars : List TBar) (hbl : bars.length ≤ 600) (t : ByteArray) (hc : cB bars = 0) (hsz0 : t.size ≤ 200000) : m_piece_Read bars t = match rdL toneG 0 (linesOf t.data.toList) [] with
  | .inl k => some ([], (k : Int), 9)
  | .inr ls => if leftOf t.data.toList = [] then (if ls.length = bars.length then behP bars ls else some ([], 0, 3)) else some ([], ((linesOf t.data.toList).length : Int), 9) := by
 unfold m_piece_Read
 rw [CheckBars_spec bars hbl, Option.bind_some, hc, show ((0 : Int) != 0) = false from rfl, ifB_false, decide_eq_false (by omega), ifB_false, kitLines_spec t (by omega)]
 obtain ⟨hb300, -⟩ := cB_zero hc
 have hsz : t.data.toList.length ≤ 200000 := by rw [← size_data]; exact hsz0
 have hP := lines_len t.data.toList
 have hx : ∀ x ∈ linesOf t.data.toList, x.length ≤ 200000 := fun x hx => Nat.le_trans (lines_size hx) hsz
 have hleft : (leftOf t.data.toList).length ≤ 200000 := Nat.le_trans (left_size _) hsz
 have hrd2 := rd_two (linesOf t.data.toList) 0 []
 rw [show asF [] = (([], []) : TS) from rfl] at hrd2
 by_cases h0 : t.data.toList = []
 ·have e1 : linesOf t.data.toList = [] := by rw [h0]; rfl
  have e2 : leftOf t.data.toList = [] := by rw [h0]; rfl
  rw [if_pos h0, e1, e2]
  simp only [Option.bind_some, rangeM_nil, fin_brk, rdL, if_true]
  by_cases hb0 : bars = []
  ·rw [show (((([] : List ByteArray).length : Nat) : Int) != (bars.length : Int)) = false by rw [hb0]; rfl, ifB_false, if_pos (show ([] : List (List TTone)).length = bars.length by rw [hb0]; rfl)]
   rfl
  ·have hpos := List.length_pos_iff.2 hb0
   rw [show (((([] : List ByteArray).length : Nat) : Int) != (bars.length : Int)) = true by rw [bne_iff_ne]; simp; omega, if_neg (show ¬ ([] : List (List TTone)).length = bars.length by simp; omega)]; rfl
 rw [if_neg h0]
 by_cases hl : leftOf t.data.toList = []
 ·rw [if_pos hl, Option.bind_some]
  have hr := progLoop (m_piece_Read_l1 ((linesOf t.data.toList).map toB, true)) toneF toneI (fun k => ([], (k : Int), 9)) (linesOf t.data.toList).length toneF_I (fun i s x hI hx hi => by
   unfold toneI at hI
   rw [Read_l1 ((linesOf t.data.toList).map toB) true i s x ⟨by omega, by omega⟩ hx (by rw [List.length_map]; omega) (fun h => by cases h)]
   cases toneF i s x <;> rfl) [] (linesOf t.data.toList) 0 ([], []) hx (by simp [toneI]) (by omega)
  rw [List.append_nil] at hr
  simp only
  rw [hr, hrd2]
  cases hrd : rdL toneG 0 (linesOf t.data.toList) [] with
  | inl k => rfl
  | inr ls =>
   simp only [rangeM_nil, Option.bind_some, fin_brk]
   obtain ⟨g1, g2⟩ := rdG_ok (linesOf t.data.toList) 0 [] ls hx (by simp) hrd
   have e : ls.length = (linesOf t.data.toList).length := by simpa using g1
   rw [List.length_map, if_pos hl]
   by_cases hn : ls.length = bars.length
   ·rw [if_pos hn, show (((linesOf t.data.toList).length : Int) != (bars.length : Int)) = false by rw [← e, hn]; simp, ifB_false]; rfl
   ·rw [if_neg hn, show (((linesOf t.data.toList).length : Int) != (bars.length : Int)) = true by rw [bne_iff_ne]; omega]; rfl
 ·rw [if_neg hl, Option.bind_some]
  have hr := progLoop (m_piece_Read_l1 ((linesOf t.data.toList ++ [leftOf t.data.toList]).map toB, false)) toneF toneI (fun k => ([], (k : Int), 9)) (linesOf t.data.toList).length toneF_I (fun i s x hI hx hi => by
   unfold toneI at hI
   rw [Read_l1 ((linesOf t.data.toList ++ [leftOf t.data.toList]).map toB) false i s x ⟨by omega, by omega⟩ hx (by simp; omega) (fun _ => by simp; omega)]
   cases toneF i s x <;> rfl) [toB (leftOf t.data.toList)] (linesOf t.data.toList) 0 ([], []) hx (by simp [toneI]) (by omega)
  rw [show (linesOf t.data.toList ++ [leftOf t.data.toList]).map toB = (linesOf t.data.toList).map toB ++ [toB (leftOf t.data.toList)] by simp] at hr ⊢
  simp only
  rw [hr, hrd2]
  cases hrd : rdL toneG 0 (linesOf t.data.toList) [] with
  | inl k => rfl
  | inr ls =>
   have hI : toneI (0 + (linesOf t.data.toList).length) (asF ls) := rdL_inv toneF toneI toneF_I _ 0 ([], []) _ (by simp [toneI]) (by rw [hrd2, hrd])
   unfold toneI at hI
   simp only [rangeM_cons, rangeM_nil, Nat.zero_add]
   rw [Read_last ((linesOf t.data.toList).map toB ++ [toB (leftOf t.data.toList)]) (linesOf t.data.toList).length (asF ls) (leftOf t.data.toList) (by omega) hleft (by simp) (by simp; omega), if_neg hl]; rfl
theorem l3_loop (gs ls : List (List TTone)) (h : gs.length = ls.length) : rangeM (m_piece_Read_l3 (asF ls)) 0 gs () = some (if gs.map List.length = ls.map List.length then .brk () else .ret ([], 0, 3)) := by
 have key : ∀ (t : List (List TTone)) (i : Nat), gs.drop i = t → i + t.length = gs.length → rangeM (m_piece_Read_l3 (asF ls)) i t () = some (if t.map List.length = (ls.drop i).map List.length then .brk () else .ret ([], 0, 3)) := by
  intro t
  induction t with
  | nil =>
   intro i hd hi
   have : ls.drop i = [] := List.drop_eq_nil_of_le (by simp at hi; omega)
   rw [this]; rfl
  | cons x t ih =>
   intro i hd hi
   simp only [List.length_cons] at hi
   have hil : i < ls.length := by omega
   have hg : ls[i]? = some (ls[i]'hil) := List.getElem?_eq_getElem hil
   have ht : gs.drop (i + 1) = t := by
    have := congrArg List.tail hd
    simpa [List.tail_drop] using this
   have hst : m_piece_Read_l3 (asF ls) i x () = some (if x.length = (ls[i]'hil).length then .nxt () else .ret ([], 0, 3)) := by
    unfold m_piece_Read_l3 asF
    simp only
    rw [getI_of (n := i) rfl (show (ls.map fun l => (l.length : Int))[i]? = some ((ls[i]'hil).length : Int) by rw [List.getElem?_map, hg]; rfl), Option.bind_some]
    by_cases he : x.length = (ls[i]'hil).length
    ·rw [if_pos he, he]; simp
    ·rw [if_neg he, show ((x.length : Int) != ((ls[i]'hil).length : Int)) = true by rw [bne_iff_ne]; omega]; rfl
   rw [rangeM_cons, hst, List.drop_eq_getElem_cons hil, List.map_cons, List.map_cons]
   by_cases he : x.length = (ls[i]'hil).length
   ·rw [if_pos he, Option.bind_some, run_nxt, ih (i + 1) ht (by omega)]
    congr 1
    by_cases hm : t.map List.length = (ls.drop (i + 1)).map List.length
    ·rw [if_pos hm, if_pos (by rw [he, hm])]
    ·rw [if_neg hm, if_neg (fun e => hm (List.cons.inj e).2)]
   ·rw [if_neg he, if_neg (fun e => he (List.cons.inj e).1)]; rfl
 exact key gs 0 rfl (by simp)
theorem behP_spec {bars : List TBar} (hc : cB bars = 0) (ls : List (List TTone)) (hl : ls.length = bars.length) (hok : ∀ l ∈ ls, ∀ z ∈ l, TOk z) :
  ∃ k gs, m_piece_checkTones bars (List.flatten ls) false = some k ∧ (k ≠ 0 → behP bars ls = some ([], 0, k)) ∧ (k = 0 → Fills bars (List.flatten ls) false ∧ m_piece_inBars bars (List.flatten ls) = some gs ∧ List.flatten ls = List.flatten gs ∧ behP bars ls = some (if gs = ls then (List.flatten ls, 0, 0) else ([], 0, 3))) := by
 obtain ⟨hbl, rr, hgb, -⟩ := cB_zero hc
 have hbad := goB_all bars _ rr hgb
 by_cases hbig : 2000 < (List.flatten ls).length
 ·have g1 := (fill_big bars _ hbig).1
  refine ⟨2, [], g1, fun _ => ?_, fun h => by cases h⟩
  unfold behP
  rw [g1]; rfl
 have hTOk : ∀ x ∈ List.flatten ls, TOk x := fun x hx => by
  obtain ⟨l, h1, h2⟩ := List.mem_flatten.1 hx
  exact hok l h1 x h2
 obtain ⟨k, g1, g2, g3⟩ := fill_spec bars hbad (by omega) (List.flatten ls) false hTOk (by omega)
 by_cases hk : k = 0
 ·obtain ⟨gs, k1, k2, k3, k4⟩ := inBars_eq hbad (by omega) (g3 hk)
  have hgl : gs.length = bars.length := by
   have := congrArg List.length k4
   simpa using this
  refine ⟨k, gs, g1, fun h => (h hk).elim, fun _ => ⟨g3 hk, k1, k3, ?_⟩⟩
  unfold behP
  rw [g1, Option.bind_some, hk, show ((0 : Int) != 0) = false from rfl, ifB_false, k1, Option.bind_some, l3_loop gs ls (by omega), Option.bind_some]
  by_cases he : gs = ls
  ·rw [if_pos he, if_pos (by rw [he])]; rfl
  ·rw [if_neg he, if_neg (fun e => he (same_cut gs ls e k3.symm))]; rfl
 ·refine ⟨k, [], g1, fun _ => ?_, fun h => (hk h).elim⟩
  unfold behP
  rw [g1, Option.bind_some, show (k != 0) = true from bne_iff_ne.2 hk]; rfl
theorem Text_is {bars : List TBar} {gs : List (List TTone)} (hbl : bars.length ≤ 300) (hc : cB bars = 0) (h : Fills bars (List.flatten gs) false) (hck : m_piece_checkTones bars (List.flatten gs) false = some 0) (hi : m_piece_inBars bars (List.flatten gs) = some gs) (hgl : gs.length ≤ 600) : m_piece_Text bars (List.flatten gs) = some (toB (gs.flatMap lineTB), 0) ∧ (gs.flatMap lineTB).length ≤ 177000 := by
 have hsz : ∀ x ∈ List.flatten gs, TSz x := fun x hx => (h.good x hx).sz
 have hlen := h.len
 obtain ⟨k1, -⟩ := lines_loops hsz hlen hgl
 have hfl := flatT_len hsz
 have h0 : m_piece_CheckTones bars (List.flatten gs) = some 0 := by
  unfold m_piece_CheckTones
  rw [CheckBars_spec bars (by omega), hc, Option.bind_some, show ((0 : Int) != 0) = false from rfl, ifB_false, hck]; rfl
 refine ⟨?_, by omega⟩
 unfold m_piece_Text
 rw [h0, Option.bind_some, show ((0 : Int) != 0) = false from rfl, ifB_false, hi, Option.bind_some, k1, Option.bind_some, fin_brk, toB_size, decide_eq_false (by omega)]; rfl
theorem Read_Text {bars : List TBar} {t : ByteArray} {ts : List TTone} {i : Int} (hc : cB bars = 0) (hsz : t.size ≤ 200000) (h : m_piece_Read bars t = some (ts, i, 0)) : m_piece_Text bars ts = some (t, 0) := by
 obtain ⟨hbl, -⟩ := cB_zero hc
 rw [Read_prog bars (by omega) t hc hsz] at h
 cases hrd : rdL toneG 0 (linesOf t.data.toList) [] with
 | inl k => rw [hrd] at h; cases h
 | inr ls =>
  rw [hrd] at h
  simp only at h
  by_cases hl : leftOf t.data.toList = []
  case neg => rw [if_neg hl] at h; cases h
  rw [if_pos hl] at h
  by_cases hn : ls.length = bars.length
  case neg => rw [if_neg hn] at h; cases h
  rw [if_pos hn] at h
  have hsz' : t.data.toList.length ≤ 200000 := by rw [← size_data]; exact hsz
  obtain ⟨g1, g2⟩ := rdG_ok (linesOf t.data.toList) 0 [] ls (fun x hx => Nat.le_trans (lines_size hx) hsz') (by simp) hrd
  obtain ⟨k, gs, k1, k2, k3⟩ := behP_spec hc ls hn g2
  by_cases hk : k = 0
  case neg =>
   rw [k2 hk] at h
   have : k = 0 := congrArg (fun z => z.2.2) (Option.some.inj h)
   exact (hk this).elim
  obtain ⟨m1, m2, m3, m4⟩ := k3 hk
  rw [m4] at h
  by_cases hg : gs = ls
  case neg => rw [if_neg hg] at h; cases h
  rw [if_pos hg] at h
  have e : List.flatten ls = ts := congrArg (fun z => z.1) (Option.some.inj h)
  subst hg
  obtain ⟨w, w1, w2⟩ := rdG_canon (linesOf t.data.toList) 0 [] gs hrd
  rw [List.nil_append] at w1
  subst w1
  have et : (gs.flatMap lineTB) = t.data.toList := by
   rw [text_lines t.data.toList hl]
   conv => rhs; rw [← w2]
   rw [List.flatMap_map]; rfl
  rw [← e, (Text_is hbl hc m1 (by rw [k1, hk]) m2 (by omega)).1, et, toB_data]
theorem lB_pos {x : TBar} (h : bad x = false) : 1 ≤ lB x := (long_spec h).2.2.1
theorem Text_Read {bars : List TBar} {t : List TTone} (hc : cB bars = 0) (hF : Fills bars t false) (h0 : m_piece_CheckTones bars t = some 0) : ∃ w, m_piece_Text bars t = some (w, 0) ∧ m_piece_Read bars w = some (t, 0, 0) := by
 obtain ⟨hbl, rr, hgb, -⟩ := cB_zero hc
 have hbad := goB_all bars _ rr hgb
 obtain ⟨gs, k1, k2, k3, k4⟩ := inBars_eq hbad (by omega) hF
 have hgl : gs.length = bars.length := by
  have := congrArg List.length k4
  simpa using this
 subst k3
 have hck : m_piece_checkTones bars (List.flatten gs) false = some 0 := by
  unfold m_piece_CheckTones at h0
  rw [CheckBars_spec bars (by omega), hc, Option.bind_some, show ((0 : Int) != 0) = false from rfl, ifB_false] at h0
  cases hh : m_piece_checkTones bars (List.flatten gs) false with
  | none => rw [hh] at h0; cases h0
  | some v => rw [hh] at h0; exact h0
 obtain ⟨t1, t2⟩ := Text_is (by omega) hc hF hck k1 (by omega)
 refine ⟨_, t1, ?_⟩
 have hgood : ∀ g ∈ gs, ∀ x ∈ g, TGood x := fun g hg x hx => hF.good x (List.mem_flatten.2 ⟨g, hg, hx⟩)
 have hne : ∀ g ∈ gs, g ≠ [] := fun g hg e => by
  obtain ⟨i, hi, he⟩ := List.getElem_of_mem hg
  have h1 : (gs.map sumU)[i]? = (bars.map lB)[i]? := by rw [k4]
  rw [List.getElem?_map, List.getElem?_map, List.getElem?_eq_getElem hi, List.getElem?_eq_getElem (by omega), he, e] at h1
  have h2 := lB_pos (hbad _ (List.getElem_mem (by omega : i < bars.length)))
  simp [sumU] at h1
  omega
 have hback : ∀ g ∈ gs, lineT (jn 32 (g.map toneW)) = some g ∧ (10 : UInt8) ∉ jn 32 (g.map toneW) := fun g hg => lineT_back (hgood g hg) (hne g hg) (flat_le hF.len g hg)
 have e : gs.flatMap lineTB = (gs.map fun g => jn 32 (g.map toneW)).flatMap fun x => x ++ [10] := by rw [List.flatMap_map]; rfl
 have hL := lines_of (P := gs.map fun g => jn 32 (g.map toneW)) (fun y hy => by
  obtain ⟨g, hg, rfl⟩ := List.mem_map.1 hy
  exact (hback g hg).2)
 rw [Read_prog bars (by omega) _ hc (by rw [toB_size]; omega), data_toB, e, hL.1, hL.2, rdG_back gs 0 [] fun g hg => (hback g hg).1]
 simp only [List.nil_append, if_true]
 rw [if_pos hgl]
 have hok : ∀ l ∈ gs, ∀ z ∈ l, TOk z := fun l hl z hz => by
  have hg := hgood l hl z hz
  have hs := hg.sz
  refine ⟨hs.num, hs.den, ?_⟩
  have := hg.text
  omega
 obtain ⟨k, gs', q1, q2, q3⟩ := behP_spec hc gs hgl hok
 have hk0 : k = 0 := by rw [hck] at q1; exact (Option.some.inj q1).symm
 obtain ⟨m1, m2, m3, m4⟩ := q3 hk0
 rw [k1] at m2
 have : gs' = gs := (Option.some.inj m2).symm
 rw [m4, if_pos this]
theorem Read_total {bars : List TBar} (hc : cB bars = 0) (t : ByteArray) : ∃ r, m_piece_Read bars t = some r := by
 obtain ⟨hbl, -⟩ := cB_zero hc
 by_cases hsz : t.size ≤ 200000
 case neg =>
  unfold m_piece_Read
  rw [CheckBars_spec bars (by omega), Option.bind_some, hc, show ((0 : Int) != 0) = false from rfl, ifB_false, decide_eq_true (by omega)]
  exact ⟨_, rfl⟩
 rw [Read_prog bars (by omega) t hc hsz]
 cases hrd : rdL toneG 0 (linesOf t.data.toList) [] with
 | inl k => exact ⟨_, rfl⟩
 | inr ls =>
  simp only
  by_cases hl : leftOf t.data.toList = []
  case neg => rw [if_neg hl]; exact ⟨_, rfl⟩
  rw [if_pos hl]
  by_cases hn : ls.length = bars.length
  case neg => rw [if_neg hn]; exact ⟨_, rfl⟩
  rw [if_pos hn]
  have hsz' : t.data.toList.length ≤ 200000 := by rw [← size_data]; exact hsz
  obtain ⟨g1, g2⟩ := rdG_ok (linesOf t.data.toList) 0 [] ls (fun x hx => Nat.le_trans (lines_size hx) hsz') (by simp) hrd
  obtain ⟨k, gs, k1, k2, k3⟩ := behP_spec hc ls hn g2
  by_cases hk : k = 0
  case neg => exact ⟨_, k2 hk⟩
  exact ⟨_, (k3 hk).2.2.2⟩
theorem TonesAreRead_true (L : List Int) : m_gleekeep2_TonesAreRead L = some true := by
 unfold m_gleekeep2_TonesAreRead
 obtain ⟨bars, q1, h1, h2, h3, h4, h5, hc⟩ := RightBars_right L
 rw [h1, Option.bind_some]
 simp only
 obtain ⟨t, q2, h6, h7, h8, h9, h10, -⟩ := TonesFor_right L (bs := bars) (p := q1) h3 hc (by omega) (by omega)
 have hF := h10.fills
 have hTOk : ∀ x ∈ t, TOk x := fun x hx => by
  have hg := hF.good x hx
  have hs := hg.sz
  have := hg.text
  exact ⟨hs.num, hs.den, by omega⟩
 have h0 : m_piece_CheckTones bars t = some 0 := CheckTones_zero hc h10
 rw [h6, Option.bind_some]
 simp only
 obtain ⟨w, w1, w2⟩ := Text_Read hc hF h0
 rw [w1, Option.bind_some]
 simp only
 rw [w2, Option.bind_some]
 simp only
 rw [show m_gleekeep2_errs [0, 0] = some 0 by kernel_rfl, Option.bind_some, show ((0 : Int) != 0) = false from rfl, ifB_false, EqualT_refl, Option.bind_some, Option.bind_some, fin_inl, Bool.not_true, ifB_false]
 obtain ⟨u, q3, h11⟩ := ToneText_spec L (bars := bars) (q := q2) h3 (by omega) (by omega)
 rw [h11, Option.bind_some]
 simp only
 obtain ⟨r, r1⟩ := Read_total hc u
 rw [r1, Option.bind_some]
 by_cases he : r.2.2 = 0
 ·obtain ⟨ts, i, e⟩ := r
  simp only at he
  subst he
  have hu : u.size ≤ 200000 := by
   by_cases hbig : u.size ≤ 200000
   ·exact hbig
   ·exfalso
    unfold m_piece_Read at r1
    rw [CheckBars_spec bars (by omega), Option.bind_some, hc, show ((0 : Int) != 0) = false from rfl, ifB_false, decide_eq_true (by omega), ifB_true] at r1
    have := congrArg (fun z => z.2.2) (Option.some.inj r1)
    simp at this
  have ht := Read_Text hc hu r1
  simp only
  rw [show ((0 : Int) == 0) = true from rfl, ifB_true, ht, Option.bind_some]
  simp only
  rw [show ((0 : Int) == 0) = true from rfl, ifB_true, show (u.toList == u.toList) = true by simp, ifB_true, ready_true]; rfl
 ·rw [show (r.2.2 == 0) = false by simpa using he, ifB_false, ready_true]; rfl
end Go.G
