/- LQ6: the best order of a right program, moved programs, a drawn order. In plain Lean, no program in sight. -/
import Derived.Test.YtlkpfhdlfapfhabGreatDoorLQ5
namespace Go.G
open Go Go.J
theorem GoodP.perm {p : TProgram} (h : GoodP p) {l : List TItem} (hl : l.Perm p.Items) : GoodP (setI p l) :=
  ⟨perm_ok h.ok hl, fun x hx => h.good x (hl.subset hx), ((hl.map (·.Key)).nodup_iff).2 h.nod⟩
theorem CloneI (t : List TItem) (hl : t.length ≤ 60) : m_slices_Clone_api_Item_api_Item t = some t := by
  unfold m_slices_Clone_api_Item_api_Item
  rw [appM_of (by simp; omega) (by omega)]; rfl
theorem Order_good {p : TProgram} (h : GoodP p) (hn : p.Items.length ≤ 7) :
    ∃ y, y.Perm p.Items ∧ m_concert_Order p = some (y.map (·.Key), bg (setI p y) y.length, 0) ∧ ∀ x, List.Perm x p.Items → bg (setI p y) y.length ≤ bg (setI p x) x.length := by
  unfold m_concert_Order
  rw [CheckProgram_zero h, Option.bind_some, show ((0 : Int) != 0) = false from rfl, ifB_false, decide_eq_false (by omega), ifB_false, CloneI _ h.ok.len, Option.bind_some]
  have hs := orders_spec h.ok hn p.Items.length FUEL (by unfold FUEL; omega) (Nat.le_refl _) p.Items (.refl _) none
  rw [Nat.sub_self] at hs
  obtain ⟨a1, a2⟩ := best_fold (KP p) (ords p.Items.length p.Items.length p.Items) none [] (by simp) (by simp)
  have hmem : ∀ x, x ∈ ords p.Items.length p.Items.length p.Items ↔ x.Perm p.Items := fun x => by rw [ords_mem _ _ _ (Nat.le_refl _) rfl]; simp
  cases hy : (ords p.Items.length p.Items.length p.Items).foldl (best1 (KP p)) none with
  | none =>
    have := a2 hy
    rw [List.nil_append] at this
    have h2 := (hmem p.Items).2 (.refl _)
    rw [this] at h2
    cases h2
  | some y =>
    obtain ⟨b1, b2⟩ := a1 y hy
    rw [List.nil_append] at b1 b2
    rw [hy] at hs
    have hp := (hmem y).1 b1
    refine ⟨y, hp, ?_, fun x hx => ?_⟩
    · rw [show m_concert_orders__al__concert_Order_1 FUEL 0 p.Items p.Change p.Clap p.Break p.Half false 0 0 [] = some (p.Items, foundA p (some y)) from hs, Option.bind_some]
      rfl
    · have h3 := b2 x ((hmem x).2 hx)
      have h4 : ¬ bg (setI p x) x.length < bg (setI p y) y.length := fun q => h3 (.inl q)
      omega
theorem itemAt_good {p : TProgram} (h : GoodP p) {x : TItem} (hx : x ∈ p.Items) : ∃ n : Nat, m_concert_itemAt p x.Key = some (n : Int) ∧ p.Items[n]? = some x := by
  obtain ⟨n, h1, h2⟩ := ixM_spec (fun y => m_concert_itemAt_1 y x.Key) (fun y => y.Key.toList == x.Key.toList) p.Items (fun y _ => rfl)
  have e : m_concert_itemAt p x.Key = ixM (fun y => m_concert_itemAt_1 y x.Key) p.Items := by
    unfold m_concert_itemAt
    rw [show m_slices_IndexFunc_api_Item_api_Item__concert_itemAt_1 p.Items x.Key = ixM (fun y => m_concert_itemAt_1 y x.Key) p.Items from rfl]
    cases ixM (fun y => m_concert_itemAt_1 y x.Key) p.Items <;> rfl
  rw [e, h1]
  rcases h2 with ⟨rfl, h3⟩ | ⟨k, rfl, hk, -, z, hz, hd⟩
  · have := h3 x hx
    simp at this
  · refine ⟨k, rfl, ?_⟩
    have hkey : z.Key = x.Key := ba_toList_inj.1 (by simpa using hd)
    obtain ⟨j, hj, hje⟩ := List.getElem_of_mem hx
    have hz2 : p.Items[k] = z := by rw [List.getElem?_eq_getElem hk] at hz; exact Option.some.inj hz
    have : (p.Items.map (·.Key))[k]'(by simpa using hk) = (p.Items.map (·.Key))[j]'(by simpa using hj) := by simp only [List.getElem_map, hz2, hje]; exact hkey
    have hkj := (List.getElem_inj h.nod).1 this
    subst hkj
    rw [List.getElem?_eq_getElem hk, hje]
theorem cloneItem_good {x : TItem} (h : x.Parts.length ≤ 12) : m_concert_cloneItem x = some x := by
  unfold m_concert_cloneItem m_slices_Clone_string_string
  rw [appM_of (by simp; omega) (by omega)]; rfl
theorem Moved_good {p : TProgram} (h : GoodP p) {x : List TItem} (hx : x.Perm p.Items) : m_concert_Moved p (x.map (·.Key)) = some (setI p x, 0) := by
  have hl := h.ok.len
  have hxl := hx.length_eq
  have hnod : (x.map (·.Key)).Nodup := ((hx.map (·.Key)).nodup_iff).2 h.nod
  unfold m_concert_Moved
  rw [CheckProgram_zero h, Option.bind_some, show ((0 : Int) != 0) = false from rfl, ifB_false, show (((x.map (·.Key)).length : Int) != (p.Items.length : Int)) = false by simp; omega, ifB_false]
  obtain ⟨s, h1, h2⟩ := rangeM_invx (m_concert_Moved_l1 p (x.map (·.Key))) (x.map (·.Key)) (fun i u => u = x.take i) (by
    rintro i k u hk rfl
    have hi := (List.getElem?_eq_some_iff.1 hk).1
    have hix : i < x.length := by simpa using hi
    have hxi : x[i]? = some x[i] := List.getElem?_eq_getElem hix
    rw [List.getElem?_map, hxi] at hk
    cases hk
    obtain ⟨n, g1, g2⟩ := itemAt_good h (hx.subset (List.getElem_mem hix))
    unfold m_concert_Moved_l1
    rw [g1, Option.bind_some, decide_eq_false (by omega), ifB_false, sliceI_of (lo := 0) (hi := (i : Int)) (a := 0) (b := i) rfl rfl (by omega) (by omega), Option.bind_some, List.drop_zero, Nat.sub_zero, ContainsS_spec, Option.bind_some]
    have hno : memB x[i].Key (List.take i (x.map (·.Key))) = false := memB_not fun hm => by
      obtain ⟨j, hj, hje⟩ := List.getElem_of_mem hm
      rw [List.length_take] at hj
      rw [List.getElem_take] at hje
      have hj2 : j < (x.map (·.Key)).length := by omega
      have : (x.map (·.Key))[j] = (x.map (·.Key))[i] := by rw [hje]; simp
      have := (List.getElem_inj hnod).1 this
      omega
    rw [hno, ifB_false, getI_of rfl g2, Option.bind_some, cloneItem_good (h.good _ (hx.subset (List.getElem_mem hix))).len, Option.bind_some, appM_of (by simp; omega) (by omega), Option.bind_some]
    exact ⟨_, rfl, by rw [List.take_add_one, hxi]; rfl⟩) [] (by simp)
  rw [h1, Option.bind_some, fin_brk, h2, List.take_of_length_le (by simp)]
  rfl
/-! ### a drawn order -/
end Go.G
