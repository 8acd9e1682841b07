/- LSj: who was there, who is there, lists put together. In plain Lean, no program in sight. -/
import Derived.Test.YtkeieikpobfapabGreatDoorLPf
namespace Go.G
open Go Go.J
set_option linter.unusedSimpArgs false
set_option linter.unusedVariables false
def errG : List Int → Int
 | [] => 0
 | x :: t => bif x != 0 then x else errG t
theorem errG0 {x : Int} {t : List Int} (h : x = 0) : errG (x :: t) = errG t := by subst h; rfl
theorem errG1 {x : Int} {t : List Int} (h : x ≠ 0) : errG (x :: t) = x := by unfold errG; rw [bne_iff_ne.2 h]; rfl
def nmG (k : ByteArray) : Int := bif isKey k then 0 else 5
def moG (a : Int) : Int := bif isMo a then 0 else 1
def isWi (w : TWindow) : Bool := decide (0 ≤ w.From ∧ w.From ≤ w.To) && decide (w.To ≤ 345686400000)
def wiG (w : TWindow) : Int := bif isWi w then 0 else 1
theorem isWi_prog (w : TWindow) : m_kit_IsWindow w = some (isWi w) := by
 unfold m_kit_IsWindow isWi
 rw [Outside_m, Option.bind_some]
 cases decide (0 ≤ w.From ∧ w.From ≤ w.To) <;> rfl
theorem compactS_strict {zs : List (List UInt8)} (h : zs.Pairwise fun a b => ¬ b < a) : (Lib.compact zs).Pairwise fun a b => a < b := by
 have hp := List.pairwise_iff_getElem.1 h
 unfold Lib.compact Lib.compactUpTo
 rw [List.pairwise_map]
 have hr : ((List.range zs.length).filter (Lib.keeps zs.toArray)).Pairwise fun a b => a < b ∧ b < zs.length ∧ Lib.keeps zs.toArray b = true := by
  have h1 : (List.range zs.length).Pairwise fun a b => a < b := List.pairwise_lt_range
  have h2 := h1.filter (Lib.keeps zs.toArray)
  refine h2.imp_of_mem fun {a b} ha hb hab => ⟨hab, ?_, ?_⟩
  ·exact List.mem_range.1 (List.mem_filter.1 hb).1
  ·exact (List.mem_filter.1 hb).2
 refine hr.imp fun {a b} hab => ?_
 obtain ⟨h1, h2, h3⟩ := hab
 unfold Lib.keeps at h3
 rw [decide_eq_true_eq] at h3
 have h4 : zs.toArray[b]! = zs[b] := by simp [h2]
 have h5 : zs.toArray[b - 1]! = zs[b - 1]'(by omega) := by simp [show b - 1 < zs.length by omega]
 have h6 : zs.toArray[a]! = zs[a]'(by omega) := by simp [show a < zs.length by omega]
 rw [h4, h6]
 have h7 : zs[b] ≠ zs[b - 1]'(by omega) := by
  rcases h3 with h3 | h3
  ·omega
  ·rw [h4, h5] at h3; exact h3
 have h8 := hp (b - 1) b (by omega) h2 (by omega)
 have h10 : zs[b - 1]'(by omega) < zs[b] := by
  rcases bs_tri (zs[b - 1]'(by omega)) zs[b] with g | g | g
  ·exact g
  ·exact absurd g.symm h7
  ·exact absurd g h8
 by_cases e : a = b - 1
 ·subst e; exact h10
 ·have h9 := hp a (b - 1) (by omega) (by omega) (by omega)
  rcases bs_tri (zs[a]'(by omega)) (zs[b - 1]'(by omega)) with g | g | g
  ·exact bs_trans g h10
  ·rw [g]; exact h10
  ·exact absurd g h9
theorem sortSG_le (l : List (List UInt8)) : (l.mergeSort fun x y => decide (x ≤ y)).Pairwise fun a b => ¬ b < a := by
 have h := List.pairwise_mergeSort (le := fun x y : List UInt8 => decide (x ≤ y)) (fun a b c h1 h2 => decide_eq_true (List.le_trans (of_decide_eq_true h1) (of_decide_eq_true h2))) (fun a b => by
  rcases List.le_total a b with h | h <;> simp [h]) l
 exact h.imp fun {a b} hab => of_decide_eq_true hab
theorem sort_keys {ks v : List ByteArray} (hn : ks.Nodup) (hv : v.Pairwise fun a b => bytesOf a < bytesOf b) (hm : ∀ s, s ∈ ks ↔ s ∈ v) (hl : v.length ≤ 1000000) : m_slices_Sort_string_string ks = some v := by
 have hnv : v.Nodup := by
  rw [List.nodup_iff_pairwise_ne]
  exact hv.imp fun {a b} h (e : a = b) => by rw [e] at h; exact bs_irr _ h
 rw [m_Sort_perm ((List.perm_ext_iff_of_nodup hn hnv).2 hm)]
 unfold m_slices_Sort_string_string
 rw [if_pos (by omega)]
 have h1 := sortSG_le (v.map bytesOf)
 have h2 : (v.map bytesOf).Pairwise fun a b => ¬ b < a := by
  rw [List.pairwise_map]
  exact hv.imp fun {a b} h => bs_asym h
 have h3 : ((v.map bytesOf).mergeSort fun x y => decide (x ≤ y)) = v.map bytesOf := List.Perm.eq_of_pairwise (fun x y _ _ k1 k2 => by
  rcases bs_tri x y with g | g | g
  ·exact absurd g k2
  ·exact g
  ·exact absurd g k1) h1 h2 (List.mergeSort_perm _ _)
 rw [h3, List.map_map]
 exact congrArg some ((List.map_congr_left fun x _ => rfl).trans (List.map_id v))
theorem ThereOf_spec (c : List TCame) (a : Int) (hc : c.length ≤ 5000) : ∃ v, m_gleeref2_ThereOf c a = some v ∧ v.Pairwise (fun x y => bytesOf x < bytesOf y) ∧ (∀ s, s ∈ v ↔ thB c s a = true) ∧ v.length ≤ 1000000 := by
 unfold m_gleeref2_ThereOf
 have key : ∀ (t : List TCame) (i : Nat) (u : List ByteArray), u.length + t.length ≤ 1000000 → rangeM (m_gleeref2_ThereOf_l1 c a) i t u = some (.brk (u ++ (t.filter fun x => thB c x.Singer a).map (·.Singer))) := by
  intro t
  induction t with
  | nil => intro i u _; simp
  | cons x t ih =>
   intro i u hu
   rw [List.length_cons] at hu
   have hst : m_gleeref2_ThereOf_l1 c a i x u = some (.nxt (bif thB c x.Singer a then u ++ [x.Singer] else u)) := by
    unfold m_gleeref2_ThereOf_l1
    rw [thereAt_s, Option.bind_some]
    cases thB c x.Singer a
    ·rfl
    ·rw [ifB_true, appM_of (by rw [List.length_singleton]; omega) (by omega)]; rfl
   rw [rangeM_cons, hst, Option.bind_some, run_nxt, List.filter_cons]
   cases thB c x.Singer a
   ·exact ih _ _ (show u.length + t.length ≤ 1000000 by omega)
   ·rw [cond_true, ih _ _ (by rw [List.length_append, List.length_singleton]; omega), if_pos rfl, List.map_cons]
    simp
 rw [key c 0 [] (by simp; omega), Option.bind_some, fin_brk, List.nil_append]
 generalize hU : (c.filter fun x => thB c x.Singer a).map (·.Singer) = U
 have hUl : U.length ≤ 5000 := by
  rw [← hU, List.length_map]
  exact Nat.le_trans (List.length_filter_le _ _) hc
 have hUm : ∀ s, s ∈ U ↔ thB c s a = true := by
  intro s
  rw [← hU, List.mem_map]
  constructor
  ·rintro ⟨x, hx, rfl⟩; exact (List.mem_filter.1 hx).2
  ·intro hs
   have : ∃ x ∈ c, x.Singer = s := by
    refine Classical.byContradiction fun hno => ?_
    have h0 : ∀ (t : List TCame) (b : Bool), (∀ x ∈ t, x.Singer ≠ s) → t.foldl (fun b x => if x.Singer = s ∧ x.At ≤ a then !x.Left else b) b = b := by
     intro t
     induction t with
     | nil => intro b _; rfl
     | cons x t ih =>
      intro b ht
      rw [List.foldl_cons, if_neg (fun g => ht x (List.mem_cons_self ..) g.1)]
      exact ih b fun y hy => ht y (List.mem_cons_of_mem _ hy)
    unfold thB at hs
    rw [h0 c false fun x hx e => hno ⟨x, hx, e⟩] at hs
    cases hs
   obtain ⟨x, hx, rfl⟩ := this
   exact ⟨x, List.mem_filter.2 ⟨hx, hs⟩, rfl⟩
 have hs : m_slices_Sort_string_string U = some (((U.map bytesOf).mergeSort fun x y => decide (x ≤ y)).map ofBytes) := by unfold m_slices_Sort_string_string; rw [if_pos (by omega)]
 have hsl : (((U.map bytesOf).mergeSort fun x y => decide (x ≤ y)).map ofBytes).length = U.length := by rw [List.length_map, List.length_mergeSort, List.length_map]
 have hbb : ∀ l : List (List UInt8), (l.map ofBytes).map bytesOf = l := fun l => by rw [List.map_map]; exact (List.map_congr_left fun x _ => rfl).trans (List.map_id l)
 have hk : m_slices_Compact_string_string (((U.map bytesOf).mergeSort fun x y => decide (x ≤ y)).map ofBytes) = some ((Lib.compact ((U.map bytesOf).mergeSort fun x y => decide (x ≤ y))).map ofBytes) := by
  unfold m_slices_Compact_string_string
  rw [if_pos (by omega), hbb]
 rw [hs, Option.bind_some, hk, Option.bind_some]
 have hst := compactS_strict (sortSG_le (U.map bytesOf))
 refine ⟨_, rfl, ?_, ?_, ?_⟩
 ·rw [List.pairwise_map]; exact hst
 ·intro s
  rw [List.mem_map]
  constructor
  ·rintro ⟨z, hz, rfl⟩
   have h1 := (List.mergeSort_perm _ _).mem_iff.1 (mem_compactS.1 hz)
   obtain ⟨y, hy, rfl⟩ := List.mem_map.1 h1
   exact (hUm y).1 hy
  ·intro h
   exact ⟨bytesOf s, mem_compactS.2 ((List.mergeSort_perm _ _).mem_iff.2 (List.mem_map.2 ⟨s, (hUm s).2 h, rfl⟩)), rfl⟩
 ·rw [List.length_map]
  have h1 : (Lib.compact ((U.map bytesOf).mergeSort fun x y => decide (x ≤ y))).Nodup := by
   rw [List.nodup_iff_pairwise_ne]
   exact hst.imp fun {a b} h (e : a = b) => by rw [e] at h; exact bs_irr _ h
  have h2 := List.Nodup.length_le_of_subset h1 (fun y hy => mem_compactS.1 hy)
  rw [List.length_mergeSort, List.length_map] at h2
  omega
theorem Has_s (w : TWindow) (a : Int) : m_rehearse_There_1 w a = some (hasW w a) := by
 unfold m_rehearse_There_1 m_kit_Has hasW
 cases decide (w.From ≤ a) <;> rfl
theorem HasAny (l : List TWindow) (a : Int) : m_slices_ContainsFunc_api_Window_api_Window__rehearse_There_1 l a = some (covW l a) := by
 unfold m_slices_ContainsFunc_api_Window_api_Window__rehearse_There_1 m_slices_IndexFunc_api_Window_api_Window__rehearse_There_1
 obtain ⟨j, h1, h2⟩ := index_dec (m_slices_IndexFunc_api_Window_api_Window__rehearse_There_1_l1 a) (fun w => hasW w a) (fun i x => by
  unfold m_slices_IndexFunc_api_Window_api_Window__rehearse_There_1_l1
  rw [Has_s, Option.bind_some]
  cases hasW x a <;> rfl) l
 rw [h1, Option.bind_some, h2]; rfl
theorem There_P {c : List TCame} {e3 : Int} (h : m_rehearse_CheckCame c = some e3) (hz : e3 = 0 → CmOK c) (a : Int) :
  ∃ v, m_rehearse_There c a = some (v, errG [e3, moG a]) ∧ (errG [e3, moG a] = 0 → m_gleeref2_ThereOf c a = some v) ∧ (errG [e3, moG a] ≠ 0 → v = []) := by
 unfold m_rehearse_There
 rw [h, Option.bind_some]
 by_cases he : e3 = 0
 ·subst he
  have hc := hz rfl
  obtain ⟨P, h3, h4⟩ := presences_spec hc
  rw [show ((0 : Int) != 0) = false from rfl, ifB_false, isMo_prog, Option.bind_some, errG0 rfl]
  unfold moG
  cases hm : isMo a with
  | false => exact ⟨[], rfl, fun g => (by cases g), fun _ => rfl⟩
  | true =>
   have ha : 0 ≤ a ∧ a ≤ 345686399999 := of_decide_eq_true hm
   obtain ⟨v, k1, k2, k3, k4⟩ := ThereOf_spec c a hc.1
   rw [Bool.not_true, ifB_false, h3, Option.bind_some]
   refine ⟨v, anyOrd_of fun q hq => anyOrd_of fun L hL => ?_, fun _ => k1, fun g => absurd rfl g⟩
   have hp := h4.perm hq
   have hLn : L.Nodup := hL.nodup_iff.2 hp.nd
   obtain ⟨u, g1, g2, g3⟩ := rangeM_invx (m_rehearse_There_l1 a q) L (fun n u => (u.map Prod.fst).Nodup ∧ ∀ s, s ∈ u.map Prod.fst ↔ s ∈ L.take n ∧ thB c s a = true) (by
    intro i x u hx hI
    have hi := (List.getElem?_eq_some_iff.1 hx).1
    have htk : L.take (i + 1) = L.take i ++ [x] := by rw [List.take_add_one, hx]; rfl
    unfold m_rehearse_There_l1
    rw [HasAny, Option.bind_some, hp.cov x a (by omega)]
    cases ht : thB c x a with
    | false =>
     refine ⟨u, rfl, hI.1, fun s => ?_⟩
     rw [hI.2, htk, List.mem_append, List.mem_singleton]
     exact ⟨fun ⟨h1, h2⟩ => ⟨.inl h1, h2⟩, fun ⟨h1, h2⟩ => ⟨h1.resolve_right (fun e => by rw [e, ht] at h2; cases h2), h2⟩⟩
    | true =>
     refine ⟨_, rfl, keys_put _ _ _ hI.1, fun s => ?_⟩
     rw [htk, List.mem_append, List.mem_singleton]
     have hk : ∀ (M : List (ByteArray × Bool)), s ∈ M.map Prod.fst ↔ (lkM M s).isSome = true := fun M => by
      rw [← hasM_lk, hasM_iff]
     rw [hk, lkM_put]
     by_cases e : s = x
     ·rw [if_pos e]
      exact ⟨fun _ => ⟨.inr e, e ▸ ht⟩, fun _ => rfl⟩
     ·rw [if_neg e, ← hk, hI.2]
      exact ⟨fun ⟨h1, h2⟩ => ⟨.inl h1, h2⟩, fun ⟨h1, h2⟩ => ⟨h1.resolve_right e, h2⟩⟩) [] ⟨List.nodup_nil, fun s => by simp⟩
   rw [List.take_length] at g3
   rw [g1, Option.bind_some, fin_brk]
   have hmem : ∀ s, s ∈ u.map Prod.fst ↔ s ∈ v := by
    intro s
    rw [g3, k3]
    refine ⟨fun h1 => h1.2, fun h1 => ⟨?_, h1⟩⟩
    rw [hL.mem_iff]
    have h5 := hp.cov s a (by omega)
    rw [h1] at h5
    cases hlk : lkM q s with
    | none => rw [hlk] at h5; cases h5
    | some r => exact List.mem_map.2 ⟨(s, r), lkM_in hlk, rfl⟩
   have hul : (u.map Prod.fst).length ≤ v.length := List.Nodup.length_le_of_subset g2 fun s hs => (hmem s).1 hs
   rw [List.length_map] at hul
   unfold m_slices_Sorted_string__maps_Keys_map_string_bool_string_bool_1
   rw [if_pos (by omega), sort_keys g2 k2 hmem k4]; rfl
 ·rw [bne_iff_ne.2 he, ifB_true, errG1 he]
  exact ⟨[], rfl, fun g => absurd g he, fun _ => rfl⟩
theorem Merge_P {a b : List TCame} {ea eb : Int} (h1 : m_rehearse_CheckCame a = some ea) (h2 : m_rehearse_CheckCame b = some eb) (hl : a.length + b.length ≤ 1000) (hd : ∀ x ∈ a ++ b, DrC x) :
  (errG [ea, eb] ≠ 0 → m_rehearse_MergeCame a b = some ([], errG [ea, eb])) ∧ (errG [ea, eb] = 0 → m_rehearse_MergeCame a b = some (dd (srtC (a ++ b)), 0)) ∧ m_gleeref2_CameOf a b = some (dd (srtC (a ++ b)), 0) := by
 have hst : ∀ (i : Nat) (x : List TCame) (e : Int), m_rehearse_CheckCame x = some e → m_rehearse_MergeCame_l1 i x () = some (bif e != 0 then .ret ([], e) else .nxt ()) := fun i x e hx => by
  unfold m_rehearse_MergeCame_l1
  rw [hx, Option.bind_some]
  cases e != 0 <;> rfl
 have ef : List.flatten [a, b] = a ++ b := by simp
 have hal : (a ++ b).length ≤ 1000 := by rw [List.length_append]; exact hl
 have hpl := (srtC_perm (a ++ b)).length_eq
 have hdl := (dd_sub (srtC (a ++ b))).length_le
 refine ⟨fun he => ?_, fun he => ?_, ?_⟩
 ·unfold m_rehearse_MergeCame
  rw [rangeM_cons, hst 0 a ea h1]
  unfold errG errG at he ⊢
  cases e1 : ea != 0 with
  | true => rfl
  | false =>
   rw [e1, cond_false] at he
   rw [cond_false, cond_false, Option.bind_some, run_nxt, rangeM_cons, hst _ b eb h2]
   cases e2 : eb != 0 with
   | true => rfl
   | false => rw [e2] at he; exact absurd rfl he
 ·have ha : ea = 0 := by
   by_cases g : ea = 0
   ·exact g
   ·rw [errG1 g] at he; exact he
  rw [errG0 ha] at he
  have hb : eb = 0 := by
   by_cases g : eb = 0
   ·exact g
   ·rw [errG1 g] at he; exact he
  subst ha hb
  unfold m_rehearse_MergeCame
  rw [rangeM_cons, hst 0 a 0 h1, show ((0 : Int) != 0) = false from rfl, cond_false, Option.bind_some, run_nxt, rangeM_cons, hst _ b 0 h2, show ((0 : Int) != 0) = false from rfl, cond_false, Option.bind_some, run_nxt, rangeM_nil, Option.bind_some, fin_brk, ConcatC _ (by rw [ef]; omega), Option.bind_some, ef, sortProg _ (by omega), Option.bind_some, Compact_spec _ (by omega), Option.bind_some, decide_eq_false (by omega), ifB_false]
 ·unfold m_gleeref2_CameOf
  rw [ConcatC _ (by rw [ef]; omega), Option.bind_some, ef, sortRef _ (by omega) (fun x hx => by have := (hd x hx).at_; omega), Option.bind_some, Compact_spec _ (by omega), Option.bind_some, decide_eq_false (by omega), ifB_false]
theorem eq_reflG {α : Type} (step : Nat → α → Unit → Option (Flow Unit Bool)) (l : List α) (h : ∀ (i : Nat) x, l[i]? = some x → step i x () = some (.nxt ())) : (ifB ((l.length : Int) != (l.length : Int)) (some false) ((rangeM step 0 l ()).bind fun f7 => Flow.fin f7 fun _ => some true)) = some true := by
 rw [show ((l.length : Int) != (l.length : Int)) = false from bne_self_eq_false _, ifB_false]
 obtain ⟨s, h1, -⟩ := rangeM_invx step l (fun _ _ => True) (fun i x s hx _ => ⟨(), h i x hx, trivial⟩) () trivial
 rw [h1]; rfl
theorem EqCG (l : List TCame) : m_slices_Equal_api_Came_api_Came l l = some true := eq_reflG (m_slices_Equal_api_Came_api_Came_l1 l) l fun i x hx => by
 unfold m_slices_Equal_api_Came_api_Came_l1
 rw [getI_of rfl hx, Option.bind_some, decide_eq_true rfl]; rfl
end Go.G
