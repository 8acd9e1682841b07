/- LQ6: the best order of a right program, moved programs, a drawn order. In plain Lean, no program in sight. -/
import Derived.Test.YtdeoejkgmeemaabGreatDoorLQ5
namespace Go.G
open Go Go.J
theorem GoodP.perm {p : TProgram} (h : GoodP p) {l : List TItem} (hl : l.Perm p.Items) : GoodP (setI p l) :=
  ⟨perm_ok h.ok hl, fun x hx => h.good x (hl.subset hx), ((hl.map (·.Key)).nodup_iff).2 h.nod⟩
theorem CloneI (t : List TItem) (hl : t.length ≤ 60) : m_slices_Clone_api_Item_api_Item t = some t := by
  unfold m_slices_Clone_api_Item_api_Item
  rw [appM_of (by simp; omega) (by omega)]; rfl
theorem Order_good {p : TProgram} (h : GoodP p) (hn : p.Items.length ≤ 7) :
    ∃ y, y.Perm p.Items ∧ m_concert_Order p = some (y.map (·.Key), bg (setI p y) y.length, 0) ∧ ∀ x, List.Perm x p.Items → bg (setI p y) y.length ≤ bg (setI p x) x.length := by
  unfold m_concert_Order
  rw [CheckProgram_zero h, Option.bind_some, show ((0 : Int) != 0) = false from rfl, ifB_false, decide_eq_false (by omega), ifB_false, CloneI _ h.ok.len, Option.bind_some]
  have hs := orders_spec h.ok hn p.Items.length FUEL (by unfold FUEL; omega) (Nat.le_refl _) p.Items (.refl _) none
  rw [Nat.sub_self] at hs
  obtain ⟨a1, a2⟩ := best_fold (KP p) (ords p.Items.length p.Items.length p.Items) none [] (by simp) (by simp)
  have hmem : ∀ x, x ∈ ords p.Items.length p.Items.length p.Items ↔ x.Perm p.Items := fun x => by rw [ords_mem _ _ _ (Nat.le_refl _) rfl]; simp
  cases hy : (ords p.Items.length p.Items.length p.Items).foldl (best1 (KP p)) none with
  | none =>
    have := a2 hy
    rw [List.nil_append] at this
    have h2 := (hmem p.Items).2 (.refl _)
    rw [this] at h2
    cases h2
  | some y =>
    obtain ⟨b1, b2⟩ := a1 y hy
    rw [List.nil_append] at b1 b2
    rw [hy] at hs
    have hp := (hmem y).1 b1
    refine ⟨y, hp, ?_, fun x hx => ?_⟩
    · rw [show m_concert_orders__al__concert_Order_1 FUEL 0 p.Items p.Change p.Clap p.Break p.Half false 0 0 [] = some (p.Items, foundA p (some y)) from hs, Option.bind_some]
      rfl
    · have h3 := b2 x ((hmem x).2 hx)
      have h4 : ¬ bg (setI p x) x.length < bg (setI p y) y.length := fun q => h3 (.inl q)
      omega
theorem itemAt_good {p : TProgram} (h : GoodP p) {x : TItem} (hx : x ∈ p.Items) : ∃ n : Nat, m_concert_itemAt p x.Key = some (n : Int) ∧ p.Items[n]? = some x := by
  obtain ⟨n, h1, h2⟩ := ixM_spec (fun y => m_concert_itemAt_1 y x.Key) (fun y => y.Key.toList == x.Key.toList) p.Items (fun y _ => rfl)
  have e : m_concert_itemAt p x.Key = ixM (fun y => m_concert_itemAt_1 y x.Key) p.Items := by
    unfold m_concert_itemAt
    rw [show m_slices_IndexFunc_api_Item_api_Item__concert_itemAt_1 p.Items x.Key = ixM (fun y => m_concert_itemAt_1 y x.Key) p.Items from rfl]
    cases ixM (fun y => m_concert_itemAt_1 y x.Key) p.Items <;> rfl
  rw [e, h1]
  rcases h2 with ⟨rfl, h3⟩ | ⟨k, rfl, hk, -, z, hz, hd⟩
  · have := h3 x hx
    simp at this
  · refine ⟨k, rfl, ?_⟩
    have hkey : z.Key = x.Key := ba_toList_inj.1 (by simpa using hd)
    obtain ⟨j, hj, hje⟩ := List.getElem_of_mem hx
    have hz2 : p.Items[k] = z := by rw [List.getElem?_eq_getElem hk] at hz; exact Option.some.inj hz
    have : (p.Items.map (·.Key))[k]'(by simpa using hk) = (p.Items.map (·.Key))[j]'(by simpa using hj) := by simp only [List.getElem_map, hz2, hje]; exact hkey
    have hkj := (List.getElem_inj h.nod).1 this
    subst hkj
    rw [List.getElem?_eq_getElem hk, hje]
theorem cloneItem_good {x : TItem} (h : x.Parts.length ≤ 12) : m_concert_cloneItem x = some x := by
  unfold m_concert_cloneItem m_slices_Clone_string_string
  rw [appM_of (by simp; omega) (by omega)]; rfl
theorem Moved_good {p : TProgram} (h : GoodP p) {x : List TItem} (hx : x.Perm p.Items) : m_concert_Moved p (x.map (·.Key)) = some (setI p x, 0) := by
  have hl := h.ok.len
  have hxl := hx.length_eq
  have hnod : (x.map (·.Key)).Nodup := ((hx.map (·.Key)).nodup_iff).2 h.nod
  unfold m_concert_Moved
  rw [CheckProgram_zero h, Option.bind_some, show ((0 : Int) != 0) = false from rfl, ifB_false, show (((x.map (·.Key)).length : Int) != (p.Items.length : Int)) = false by simp; omega, ifB_false]
  obtain ⟨s, h1, h2⟩ := rangeM_invx (m_concert_Moved_l1 p (x.map (·.Key))) (x.map (·.Key)) (fun i u => u = x.take i) (by
    rintro i k u hk rfl
    have hi := (List.getElem?_eq_some_iff.1 hk).1
    have hix : i < x.length := by simpa using hi
    have hxi : x[i]? = some x[i] := List.getElem?_eq_getElem hix
    rw [List.getElem?_map, hxi] at hk
    cases hk
    obtain ⟨n, g1, g2⟩ := itemAt_good h (hx.subset (List.getElem_mem hix))
    unfold m_concert_Moved_l1
    rw [g1, Option.bind_some, decide_eq_false (by omega), ifB_false, sliceI_of (lo := 0) (hi := (i : Int)) (a := 0) (b := i) rfl rfl (by omega) (by omega), Option.bind_some, List.drop_zero, Nat.sub_zero, ContainsS_spec, Option.bind_some]
    have hno : memB x[i].Key (List.take i (x.map (·.Key))) = false := memB_not fun hm => by
      obtain ⟨j, hj, hje⟩ := List.getElem_of_mem hm
      rw [List.length_take] at hj
      rw [List.getElem_take] at hje
      have hj2 : j < (x.map (·.Key)).length := by omega
      have : (x.map (·.Key))[j] = (x.map (·.Key))[i] := by rw [hje]; simp
      have := (List.getElem_inj hnod).1 this
      omega
    rw [hno, ifB_false, getI_of rfl g2, Option.bind_some, cloneItem_good (h.good _ (hx.subset (List.getElem_mem hix))).len, Option.bind_some, appM_of (by simp; omega) (by omega), Option.bind_some]
    exact ⟨_, rfl, by rw [List.take_add_one, hxi]; rfl⟩) [] (by simp)
  rw [h1, Option.bind_some, fin_brk, h2, List.take_of_length_le (by simp)]
  rfl
/-! ### a drawn order -/
theorem swp_set {l : List Int} {i j : Nat} {a b : Int} (ha : l[i]? = some a) (hb : l[j]? = some b) : (l.set i b).set j a = swp l i j := (swp_of ha hb).symm
theorem Order_perm (L : List Int) {q : Int} {n : Nat} (hq : 0 ≤ q) (hq' : q ≤ 999990000) (hn : n ≤ 60) :
    ∃ o q', m_gleemake_Stream_Order L q (n : Int) = some (o, q') ∧ q ≤ q' ∧ q' ≤ q + 100 ∧ o.Perm ((List.range n).map Int.ofNat) := by
  unfold m_gleemake_Stream_Order
  rw [rangeI_of (by omega), Option.bind_some]
  obtain ⟨u, h1, h2⟩ := rangeM_invx m_gleemake_Stream_Order_l1 (List.range (n : Int).toNat) (fun i u => u = (List.range i).map Int.ofNat) (by
    rintro i x u hx rfl
    have hi := (List.getElem?_eq_some_iff.1 hx).1
    rw [List.length_range] at hi
    unfold m_gleemake_Stream_Order_l1
    rw [appM_of (by simp; omega) (by omega), Option.bind_some]
    exact ⟨_, rfl, by rw [List.range_succ, List.map_append]; rfl⟩) [] rfl
  rw [h1, Option.bind_some, fin_brk]
  rw [List.length_range, Int.toNat_natCast] at h2
  subst h2
  obtain ⟨f, h4, h5⟩ := loopM_post (m_gleemake_Stream_Order_l2 L) (fun s => s.1 < n ∧ (n = 0 ∨ 0 ≤ s.1) ∧ (n = 0 → s.1 = -1) ∧ q ≤ s.2.1 ∧ s.2.1 + s.1 ≤ q + n ∧ s.2.2.Perm ((List.range n).map Int.ofNat)) (fun s => s.1.toNat)
    (fun f => ∃ s, f = .brk s ∧ q ≤ s.2.1 ∧ s.2.1 ≤ q + 100 ∧ s.2.2.Perm ((List.range n).map Int.ofNat)) (by
    rintro ⟨j, r, u⟩ ⟨g1, g2, g3, g4, g5, g6⟩
    simp only at g1 g2 g3 g4 g5 g6
    have gl : u.length = n := by rw [g6.length_eq]; simp
    unfold m_gleemake_Stream_Order_l2
    simp only
    by_cases hj : j > 0
    · obtain ⟨v, hv, hv1, hv2⟩ := Next_spec L (p := r) (n := w64 (j + 1)) (by omega) (by omega) (by rw [w64_id (by omega)]; omega)
      have hv2 := hv2 (by rw [w64_id (by omega)]; omega)
      rw [w64_id (n := j + 1) (by omega)] at hv2
      have e1 : u[v.toNat]? = some (u[v.toNat]'(by omega)) := List.getElem?_eq_getElem _
      have e2 : u[j.toNat]? = some (u[j.toNat]'(by omega)) := List.getElem?_eq_getElem _
      rw [decide_eq_true hj, ifB_true, hv, Option.bind_some]
      simp only
      rw [getI_of (n := v.toNat) (by omega) e1, Option.bind_some, getI_of (n := j.toNat) (by omega) e2, Option.bind_some, Option.bind_some,
        getI_of (n := v.toNat) (by omega) (List.getElem?_eq_getElem (by rw [List.length_set]; omega)), Option.bind_some, swp_set e2 e1]
      refine .inl ⟨_, rfl, ⟨?_, ?_, ?_, ?_, ?_, ?_⟩, ?_⟩
      · simp only; rw [w64_id (by omega)]; omega
      · simp only; rw [w64_id (by omega)]; omega
      · omega
      · simp only; omega
      · simp only; rw [w64_id (by omega)]; omega
      · exact (swp_perm (by omega) (by omega)).trans g6
      · simp only; rw [w64_id (by omega)]; omega
    · rw [decide_eq_false hj, ifB_false]
      exact .inr (.inl ⟨_, rfl, _, rfl, g4, by simp only; omega, g6⟩)) (w64 ((n : Int) - 1), q, (List.range n).map Int.ofNat) (by
    simp only
    rw [w64_id (by omega)]
    exact ⟨by omega, by omega, by omega, by omega, by omega, .refl _⟩)
  obtain ⟨s, rfl, h6, h7, h8⟩ := h5
  rw [h4, Option.bind_some, fin_brk]
  exact ⟨_, _, rfl, h6, h7, h8⟩
/-- the items at the numbers of an order -/
theorem perm_items {p : TProgram} {o : List Int} (h : o.Perm ((List.range p.Items.length).map Int.ofNat)) : ∃ x : List TItem, x.Perm p.Items ∧ x.length = o.length ∧ ∀ i : Nat, ∀ z, o[i]? = some z → getI p.Items z = x[i]? := by
  refine ⟨o.filterMap fun z => p.Items[z.toNat]?, ?_, ?_, ?_⟩
  · refine (h.filterMap _).trans ?_
    rw [List.filterMap_map]
    have : (List.range p.Items.length).filterMap ((fun z : Int => p.Items[z.toNat]?) ∘ Int.ofNat) = p.Items := by
      have := met_range p.Items
      unfold met at this
      exact this
    rw [this]
  all_goals
    have hall : ∀ z ∈ o, ∃ x, p.Items[z.toNat]? = some x := fun z hz => by
      have := h.subset hz
      simp only [List.mem_map, List.mem_range] at this
      obtain ⟨a, ha, rfl⟩ := this
      exact ⟨p.Items[a], List.getElem?_eq_getElem ha⟩
  · clear h
    induction o with
    | nil => rfl
    | cons z o ih =>
      obtain ⟨x, hx⟩ := hall z (List.mem_cons_self ..)
      rw [List.filterMap_cons, hx]
      simp only [List.length_cons]
      rw [ih fun y hy => hall y (List.mem_cons_of_mem _ hy)]
  · have hnn : ∀ z ∈ o, 0 ≤ z := fun z hz => by
      have := h.subset hz
      simp only [List.mem_map, List.mem_range] at this
      obtain ⟨a, ha, rfl⟩ := this
      exact Int.natCast_nonneg a
    clear h
    induction o with
    | nil => intro i z hz; cases hz
    | cons y o ih =>
      obtain ⟨x, hx⟩ := hall y (List.mem_cons_self ..)
      intro i z hz
      rw [List.filterMap_cons, hx]
      cases i with
      | zero =>
        simp at hz; subst hz
        rw [getI_of (n := y.toNat) (by have := hnn y (List.mem_cons_self ..); omega) hx]; rfl
      | succ i =>
        exact ih (fun y hy => hall y (List.mem_cons_of_mem _ hy)) (fun y hy => hnn y (List.mem_cons_of_mem _ hy)) i z (by simpa using hz)
end Go.G
