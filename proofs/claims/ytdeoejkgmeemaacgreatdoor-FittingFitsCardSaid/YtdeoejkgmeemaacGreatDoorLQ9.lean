/- LQ9: the law of the fullest choices. In plain Lean, no program in sight. -/
import Derived.Test.YtdeoejkgmeemaacGreatDoorLQ3
import Derived.Test.YtdeoejkgmeemaacGreatDoorLG1
import Derived.Test.YtdeoejkgmeemaacGreatDoorLR1
namespace Go.G
open Go Go.J
theorem CloneI2 (t : List TItem) (hl : t.length ≤ 60) : m_slices_Clone_api_Item_api_Item t = some t := by
  unfold m_slices_Clone_api_Item_api_Item
  rw [appM_of (by simp; omega) (by omega)]; rfl
theorem DeleteF (l : List TItem) (ks : List ByteArray) (hl : l.length ≤ 60) : m_slices_DeleteFunc_api_Item_api_Item__gleekeep2_FittingFits_1_1 l ks = some (l.filter fun x => memB x.Key ks) := by
  rw [show m_slices_DeleteFunc_api_Item_api_Item__gleekeep2_FittingFits_1_1 l ks = dfM (TItem.mk ByteArray.empty ByteArray.empty 0 []) (fun x => m_gleekeep2_FittingFits_1_1 x ks) l from rfl]
  rw [dfM_spec _ _ (fun x => !memB x.Key ks) l (by omega) (fun x _ => by unfold m_gleekeep2_FittingFits_1_1; rw [ContainsS_spec]; rfl)]
  simp
/-- how long the items of some keys are -/
theorem some_spec {p : TProgram} (h : GoodP p) (ks : List ByteArray) : m_gleekeep2_FittingFits_1 ks p.Items p.Change p.Clap p.Break p.Half =
    some (if (p.Items.filter fun x => memB x.Key ks).length = ks.length then bg ⟨p.Items.filter fun x => memB x.Key ks, p.Change, p.Clap, p.Break, -1⟩ (p.Items.filter fun x => memB x.Key ks).length else -1) := by
  unfold m_gleekeep2_FittingFits_1
  rw [CloneI2 _ h.ok.len, Option.bind_some, DeleteF _ _ h.ok.len, Option.bind_some, Long_zero (h.sub List.filter_sublist), Option.bind_some]
  simp only
  rw [show ((0 : Int) != 0) = false from rfl, ifB_false, Option.bind_some, fin_inl]
  by_cases e : (p.Items.filter fun x => memB x.Key ks).length = ks.length
  · rw [if_pos e, show (((p.Items.filter fun x => memB x.Key ks).length : Int) != (ks.length : Int)) = false by rw [e]; simp, ifB_false]
  · rw [if_neg e, show (((p.Items.filter fun x => memB x.Key ks).length : Int) != (ks.length : Int)) = true by simpa using (fun h : ((p.Items.filter fun x => memB x.Key ks).length : Int) = (ks.length : Int) => e (by omega)), ifB_true]
/-- THE LAW: at every seed the answer is true. -/
theorem FittingFits_true (L : List Int) : m_gleekeep2_FittingFits L = some true := by
  unfold m_gleekeep2_FittingFits
  obtain ⟨p, q, h1, h2, h3, h4, hr⟩ := RightProgram_right L (q := 0) (most := 5) (by omega) (by omega) (by omega) (by omega)
  have h := hr.good
  have hl := hr.len
  have hp := h.ok
  obtain ⟨t, ht, ht1, ht2⟩ := Range_spec L (p := q) (a := 0) (b := 900) (by omega) (by omega) (by omega) (by omega) (by omega)
  obtain ⟨m, hm, hm1, hm2⟩ := Fitting_best h hl (t := t) ht1 (by omega)
  rw [h1, Option.bind_some]
  simp only
  rw [ht, Option.bind_some]
  simp only
  rw [hm, Option.bind_some]
  simp only
  have hfil := filter_sub (chI_sub m p.Items 0) h.nod
  have hn0 : 0 ≤ lgM p m := (bg_rng (h.sub (chI_sub m p.Items 0)).ok _).1
  rw [show ((0 : Int) != 0) = false from rfl, ifB_false, some_spec h, hfil, if_pos (by simp), Option.bind_some]
  rw [show bg ⟨chI m 0 p.Items, p.Change, p.Clap, p.Break, -1⟩ (chI m 0 p.Items).length = lgM p m from rfl, decide_eq_false (show ¬ lgM p m < 0 by omega), ifB_false, decide_eq_false (show ¬ lgM p m > t by omega), Option.bind_some, fin_inl, ifB_false]
  have hkl2 : (chI m 0 p.Items).length ≤ 5 := Nat.le_trans (chI_sub m p.Items 0).length_le hl
  have hkl : ((chI m 0 p.Items).map (·.Key)).length ≤ 5 := by
    rw [List.length_map]; exact Nat.le_trans (chI_sub m p.Items 0).length_le hl
  obtain ⟨u, k1, -⟩ := rangeM_invx (m_gleekeep2_FittingFits_l1 (p, q) (t, q + 1) ((chI m 0 p.Items).map (·.Key), 0)) p.Items (fun _ _ => True) (by
    rintro i x u hx -
    have hxm := List.mem_of_getElem? hx
    unfold m_gleekeep2_FittingFits_l1
    simp only
    rw [ContainsS_spec, Option.bind_some]
    cases hc : memB x.Key ((chI m 0 p.Items).map (·.Key)) with
    | true => exact ⟨(), rfl, trivial⟩
    | false =>
      have hno : ¬ x.Key ∈ (chI m 0 p.Items).map (·.Key) := fun hm => by rw [memB_of hm] at hc; cases hc
      have hclone : m_slices_Clone_string_string ((chI m 0 p.Items).map (·.Key)) = some ((chI m 0 p.Items).map (·.Key)) := by
        unfold m_slices_Clone_string_string
        rw [appM_of (by simp; omega) (by omega)]; rfl
      have hmore := filter_more h.nod hxm hno
      rw [hfil] at hmore
      rw [Bool.not_false, ifB_true, hclone, Option.bind_some, appM_of (by simp; omega) (by omega), Option.bind_some, some_spec h, if_pos (by rw [hmore]; simp), Option.bind_some]
      obtain ⟨m', g1, -, g2⟩ := mask_of (fun y => memB y.Key ((chI m 0 p.Items).map (·.Key) ++ [x.Key])) p.Items 0
      rw [Nat.zero_add] at g1
      have hnot : ¬ lgM p m' ≤ t := fun hle => by
        have := hm2 m' g1 hle
        rw [g2] at this
        omega
      have e : bg ⟨p.Items.filter fun y => memB y.Key ((chI m 0 p.Items).map (·.Key) ++ [x.Key]), p.Change, p.Clap, p.Break, -1⟩ (p.Items.filter fun y => memB y.Key ((chI m 0 p.Items).map (·.Key) ++ [x.Key])).length = lgM p m' := by
        unfold lgM
        rw [g2]
      rw [e, decide_eq_false hnot]
      exact ⟨(), rfl, trivial⟩) () trivial
  rw [k1, Option.bind_some, fin_brk, ready_true]
  rfl
end Go.G
