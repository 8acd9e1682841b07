/- LO5: the middle of a concert, moved programs; the law of the orders of concerts. In plain Lean, no program in sight. -/
import Derived.Test.YtgjbeigeejhfkaaDoorLO4
namespace Go.G
open Go Go.J
theorem part_ok {p : TProgram} (h : ProgOK p) {its : List TItem} (hl : its.length ≤ 60) (hi : ∀ x ∈ its, x ∈ p.Items) : ProgOK (TProgram.mk its p.Change p.Clap p.Break (-1)) := by
  constructor
  · exact hl
  · intro i x hx
    obtain ⟨k, hk, rfl⟩ := List.getElem_of_mem (hi x (List.mem_of_getElem? hx))
    exact h.item k _ (List.getElem?_eq_getElem hk)
  all_goals first | exact h.ch1 | exact h.ch2 | exact h.cl1 | exact h.cl2 | exact h.br1 | exact h.br2 | exact Int.le_refl _ | exact .inl rfl
/-- how long the two halves are, and by how much they differ -/
def hA (p : TProgram) (i : Nat) : Int := bg ⟨p.Items.take (i + 1), p.Change, p.Clap, p.Break, -1⟩ (p.Items.take (i + 1)).length
def hB (p : TProgram) (i : Nat) : Int := bg ⟨p.Items.drop (i + 1), p.Change, p.Clap, p.Break, -1⟩ (p.Items.drop (i + 1)).length
def hD (p : TProgram) (i : Nat) : Int := max (hA p i - hB p i) (hB p i - hA p i)
def hS (p : TProgram) : Nat → Int × Int
  | 0 => (-1, 0)
  | i + 1 => if (hS p i).1 < 0 ∨ hD p i < (hS p i).2 then ((i : Int), hD p i) else hS p i
theorem hA_rng {p : TProgram} (h : ProgOK p) (i : Nat) : 0 ≤ hA p i ∧ hA p i ≤ 60 * 172800000 := by
  have hl := h.len
  have := bg_rng (part_ok h (its := p.Items.take (i + 1)) (by simp; omega) (fun x hx => List.mem_of_mem_take hx)) (p.Items.take (i + 1)).length
  unfold hA
  simp only [List.length_take] at this ⊢
  omega
theorem hB_rng {p : TProgram} (h : ProgOK p) (i : Nat) : 0 ≤ hB p i ∧ hB p i ≤ 60 * 172800000 := by
  have hl := h.len
  have := bg_rng (part_ok h (its := p.Items.drop (i + 1)) (by simp; omega) (fun x hx => List.mem_of_mem_drop hx)) (p.Items.drop (i + 1)).length
  unfold hB
  simp only [List.length_drop] at this ⊢
  omega
theorem longOf_spec {p : TProgram} (h : ProgOK p) {its : List TItem} (hl : its.length ≤ 60) (hi : ∀ x ∈ its, x ∈ p.Items) : m_concert_longOf p its = some (bg ⟨its, p.Change, p.Clap, p.Break, -1⟩ its.length) := by
  unfold m_concert_longOf
  rw [begins_spec (part_ok h hl hi)]; rfl
theorem ifB_or {α : Type} (a b : Bool) : (ifB a (some (.inl true)) (some (.inl b)) : Option (Bool ⊕ α)) = some (.inl (a || b)) := by cases a <;> rfl
theorem Half_spec {p : TProgram} {e : Int} (he : m_gleeref2_ProgramFault p = some e) (hok : e = 0 → ProgOK p) :
    ∃ k d, m_concert_Half p = some (if e = 0 ∧ 2 ≤ p.Items.length then k else 0, if e = 0 ∧ 2 ≤ p.Items.length then d else 0, if e = 0 then (if 2 ≤ p.Items.length then 0 else 8) else e) ∧ (e = 0 → 2 ≤ p.Items.length → m_gleeref2_HalfOf p = some (k, d)) := by
  unfold m_concert_Half
  rw [CheckProgram_eq, he, Option.bind_some]
  by_cases h0 : e = 0
  · subst h0
    have h := hok rfl
    have hl := h.len
    by_cases h2 : 2 ≤ p.Items.length
    · refine ⟨(hS p (p.Items.length - 1)).1, (hS p (p.Items.length - 1)).2, ?_, fun _ _ => ?_⟩
      · rw [show ((0 : Int) != 0) = false from rfl, ifB_false, decide_eq_false (by omega), ifB_false, w64_id (by omega), rangeI_of (by omega), Option.bind_some]
        obtain ⟨s, h3, h4⟩ := rangeM_invx (m_concert_Half_l1 p) (List.range ((p.Items.length : Int) - 1).toNat) (fun i s => s = hS p i) (by
          rintro i x s hx rfl
          have hi := (List.getElem?_eq_some_iff.1 hx).1
          rw [List.length_range] at hi
          have a1 := hA_rng h i; have a2 := hB_rng h i
          unfold m_concert_Half_l1
          rw [w64_id (n := (i : Int) + 1) (by omega), sliceI_of (lo := 0) (hi := (i : Int) + 1) (a := 0) (b := i + 1) rfl (by omega) (by omega) (by omega), Option.bind_some, List.drop_zero, Nat.sub_zero, longOf_spec h (by simp; omega) (fun x hx => List.mem_of_mem_take hx), Option.bind_some,
            sliceI_of (a := i + 1) (b := p.Items.length) (by omega) rfl (by omega) (by omega), Option.bind_some, show (p.Items.drop (i + 1)).take (p.Items.length - (i + 1)) = p.Items.drop (i + 1) from List.take_of_length_le (by simp), longOf_spec h (by simp; omega) (fun x hx => List.mem_of_mem_drop hx), Option.bind_some]
          rw [show (bg ⟨p.Items.take (i + 1), p.Change, p.Clap, p.Break, -1⟩ (p.Items.take (i + 1)).length) = hA p i from rfl, show (bg ⟨p.Items.drop (i + 1), p.Change, p.Clap, p.Break, -1⟩ (p.Items.drop (i + 1)).length) = hB p i from rfl]
          rw [w64_id (n := hA p i - hB p i) (by omega), w64_id (n := hB p i - hA p i) (by omega), show max (hA p i - hB p i) (hB p i - hA p i) = hD p i from rfl, ifB_or, Option.bind_some, fin_inl]
          refine ⟨hS p (i + 1), ?_, rfl⟩
          simp only [hS]
          by_cases g : (hS p i).1 < 0 ∨ hD p i < (hS p i).2
          · rw [if_pos g, show (decide ((hS p i).1 < 0) || decide (hD p i < (hS p i).2)) = true by simpa using g]; rfl
          · rw [if_neg g, show (decide ((hS p i).1 < 0) || decide (hD p i < (hS p i).2)) = false by simp only [Bool.or_eq_false_iff, decide_eq_false_iff_not]; omega]; rfl) ((-1), 0) rfl
        rw [h3, Option.bind_some, fin_brk, h4, List.length_range, show ((p.Items.length : Int) - 1).toNat = p.Items.length - 1 by omega, if_pos ⟨rfl, h2⟩, if_pos ⟨rfl, h2⟩, if_pos rfl, if_pos h2]
      · unfold m_gleeref2_HalfOf
        obtain ⟨f, h3, h4⟩ := loopM_post (m_gleeref2_HalfOf_l1 p) (fun s => ∃ i : Nat, s = ((hS p i).1, (hS p i).2, (i : Int)) ∧ i ≤ p.Items.length - 1) (fun s => (p.Items.length - s.2.2).toNat)
          (fun f => ∃ s, f = .brk s ∧ s.1 = (hS p (p.Items.length - 1)).1 ∧ s.2.1 = (hS p (p.Items.length - 1)).2) (by
          rintro s ⟨i, rfl, hi⟩
          have a1 := hA_rng h i; have a2 := hB_rng h i
          unfold m_gleeref2_HalfOf_l1
          simp only
          have e1 : w64 ((i : Int) + 1) = ((i + 1 : Nat) : Int) := by rw [w64_id (by omega)]; rfl
          rw [e1]
          by_cases g : ((i + 1 : Nat) : Int) < (p.Items.length : Int)
          · rw [decide_eq_true g, ifB_true, Option.bind_some, fin_inl, sliceI_of (lo := 0) (hi := ((i + 1 : Nat) : Int)) (a := 0) (b := i + 1) rfl rfl (by omega) (by omega), Option.bind_some, List.drop_zero, Nat.sub_zero,
              sliceI_of (a := i + 1) (b := p.Items.length) rfl rfl (by omega) (by omega), Option.bind_some, show (p.Items.drop (i + 1)).take (p.Items.length - (i + 1)) = p.Items.drop (i + 1) from List.take_of_length_le (by simp),
              LongOf_spec (part_ok h (its := p.Items.take (i + 1)) (by simp; omega) (fun x hx => List.mem_of_mem_take hx)), Option.bind_some,
              LongOf_spec (part_ok h (its := p.Items.drop (i + 1)) (by simp; omega) (fun x hx => List.mem_of_mem_drop hx)), Option.bind_some]
            simp only
            rw [show (bg ⟨p.Items.take (i + 1), p.Change, p.Clap, p.Break, -1⟩ (p.Items.take (i + 1)).length) = hA p i from rfl, show (bg ⟨p.Items.drop (i + 1), p.Change, p.Clap, p.Break, -1⟩ (p.Items.drop (i + 1)).length) = hB p i from rfl]
            rw [w64_id (n := hA p i - hB p i) (by omega), w64_id (n := 0 - (hA p i - hB p i)) (by omega), show max (hA p i - hB p i) (0 - (hA p i - hB p i)) = hD p i by unfold hD; congr 1; omega, ifB_or, Option.bind_some, fin_inl]
            refine .inl ⟨((hS p (i + 1)).1, (hS p (i + 1)).2, ((i + 1 : Nat) : Int)), ?_, ⟨i + 1, rfl, by omega⟩, by simp only; omega⟩
            simp only [hS]
            by_cases g : (hS p i).1 < 0 ∨ hD p i < (hS p i).2
            · rw [if_pos g, show (decide ((hS p i).1 < 0) || decide (hD p i < (hS p i).2)) = true by simpa using g]; rfl
            · rw [if_neg g, show (decide ((hS p i).1 < 0) || decide (hD p i < (hS p i).2)) = false by simp only [Bool.or_eq_false_iff, decide_eq_false_iff_not]; omega]; rfl
          · rw [decide_eq_false g, ifB_false]
            have : i = p.Items.length - 1 := by omega
            subst this
            exact .inr (.inl ⟨_, rfl, _, rfl, rfl, rfl⟩)) ((-1), 0, 0) ⟨0, rfl, by omega⟩
        obtain ⟨s, rfl, h5, h6⟩ := h4
        rw [h3, Option.bind_some, fin_brk, h5, h6]
    · refine ⟨0, 0, ?_, fun _ h => absurd h h2⟩
      rw [show ((0 : Int) != 0) = false from rfl, ifB_false, decide_eq_true (by omega), ifB_true, if_pos rfl, if_neg h2]; simp
  · refine ⟨0, 0, ?_, fun h => absurd h h0⟩
    rw [show (e != 0) = true by simpa using h0, ifB_true, if_neg h0]; simp
/-! ### moved programs -/
theorem Moved_l1_eq {p : TProgram} (h : ProgOK p) (o : List ByteArray) : m_concert_Moved_l1 p o = m_gleeref2_MovedProgram_l1 p o := by
  funext i x u
  unfold m_concert_Moved_l1 m_gleeref2_MovedProgram_l1
  rw [show m_concert_itemAt p x = m_gleeref2_ItemAt p.Items x from rfl]
  have e1 : ∀ y : Int, ((getI p.Items y).bind fun e21 => (m_concert_cloneItem e21).bind fun y22 => (appM 64 u [y22]).bind fun q25 => (some (.nxt q25) : Option (Flow (List TItem) (TProgram × Int)))) = (getI p.Items y).bind fun e18 => (appM 64 u [e18]).bind fun q20 => some (.nxt q20) := by
    intro y
    cases hg : getI p.Items y with
    | none => rfl
    | some z =>
      have hz := h.item _ z (getI_spec hg).2
      rw [Option.bind_some, Option.bind_some]
      unfold m_concert_cloneItem m_slices_Clone_string_string
      have := hz.parts
      rw [appM_of (by simp; omega) (by omega)]; rfl
  simp only [e1]
theorem MovedProgram_total (p : TProgram) (hp : p.Items.length ≤ 60) (o : List ByteArray) : ∃ r, m_gleeref2_MovedProgram p o = some r := by
  unfold m_gleeref2_MovedProgram
  by_cases hl : o.length = p.Items.length
  · rw [show ((o.length : Int) != (p.Items.length : Int)) = false by simp [hl], ifB_false]
    obtain ⟨f, h1, h2⟩ := rangeM_post (m_gleeref2_MovedProgram_l1 p o) o (fun i u => u.length ≤ i) (fun f => match f with | .nxt _ => False | _ => True) (by
      intro i x u hx hI
      have hi := (List.getElem?_eq_some_iff.1 hx).1
      unfold m_gleeref2_MovedProgram_l1
      obtain ⟨n, hn, -, hn2, -⟩ := IndexFunc_spec p.Items x
      unfold m_gleeref2_ItemAt
      rw [hn, Option.bind_some, Option.bind_some]
      by_cases h0 : n < 0
      · rw [decide_eq_true h0]; exact ⟨_, rfl, by simp, by simp, by simp⟩
      · rw [decide_eq_false h0, ifB_false, sliceI_of (lo := 0) (hi := (i : Int)) (a := 0) (b := i) rfl rfl (by omega) (by omega), Option.bind_some, ContainsS_spec, Option.bind_some]
        cases memB x (List.take (i - 0) (List.drop 0 o)) with
        | true => exact ⟨_, rfl, by simp, by simp, by simp⟩
        | false =>
          rw [ifB_false, getI_of (n := n.toNat) (by omega) (List.getElem?_eq_getElem (by omega)), Option.bind_some, appM_of (by simp; omega) (by omega), Option.bind_some]
          exact ⟨_, rfl, fun s hs => by cases hs; simp; omega, by simp, by simp⟩) (fun _ _ => trivial) [] (by simp)
    rw [h1, Option.bind_some]
    cases f with
    | nxt s => exact h2.elim
    | brk s => exact ⟨_, rfl⟩
    | ret v => exact ⟨_, rfl⟩
  · rw [show ((o.length : Int) != (p.Items.length : Int)) = true by simp; omega, ifB_true]; exact ⟨_, rfl⟩
theorem Moved_spec {p : TProgram} {e : Int} (he : m_gleeref2_ProgramFault p = some e) (hok : e = 0 → ProgOK p) (o : List ByteArray) :
    ∃ m n, m_concert_Moved p o = some (if e = 0 then m else ⟨[], 0, 0, 0, 0⟩, if e = 0 then n else e) ∧ (e = 0 → m_gleeref2_MovedProgram p o = some (m, n)) := by
  unfold m_concert_Moved
  rw [CheckProgram_eq, he, Option.bind_some]
  by_cases h0 : e = 0
  · subst h0
    have h := hok rfl
    obtain ⟨⟨m, n⟩, hm⟩ := MovedProgram_total p h.len o
    refine ⟨m, n, ?_, fun _ => hm⟩
    rw [show ((0 : Int) != 0) = false from rfl, ifB_false, Moved_l1_eq h, if_pos rfl, if_pos rfl]
    exact hm
  · refine ⟨⟨[], 0, 0, 0, 0⟩, 0, ?_, fun h => absurd h h0⟩
    rw [show (e != 0) = true by simpa using h0, ifB_true, if_neg h0, if_neg h0]
theorem SameItem_refl (x : TItem) : m_gleeref2_SameItem x x = some true := by
  unfold m_gleeref2_SameItem
  rw [show (x.Key.toList == x.Key.toList) = true by simp, show (x.Places.toList == x.Places.toList) = true by simp, show (x.Long == x.Long) = true by simp, EqualS_refl]; rfl
theorem SameProgram_refl (p : TProgram) : m_gleeref2_SameProgram p p = some true := by
  unfold m_gleeref2_SameProgram m_slices_EqualFunc_api_Item_api_Item_api_Item_api_Item__gleeref2_SameItem
  have r1 : ∀ z : Int, (z == z) = true := fun z => by simp
  have r2 : ∀ z : Int, (z != z) = false := fun z => by simp
  rw [r1, r1, r1, r1, ifB_true, ifB_true, ifB_true, ifB_true, r2, ifB_false]
  obtain ⟨s, h, -⟩ := rangeM_invx (m_slices_EqualFunc_api_Item_api_Item_api_Item_api_Item__gleeref2_SameItem_l1 p.Items) p.Items (fun _ _ => True) (fun i x s hx _ => by
    unfold m_slices_EqualFunc_api_Item_api_Item_api_Item_api_Item__gleeref2_SameItem_l1
    rw [getI_of rfl hx, Option.bind_some, SameItem_refl, Option.bind_some]
    exact ⟨_, rfl, trivial⟩) () trivial
  rw [h]; rfl
/-! ### a drawn order -/
theorem Order_draw (L : List Int) {q : Int} {n : Nat} (hq : 0 ≤ q) (hq' : q ≤ 999990000) (hn : n ≤ 60) :
    ∃ o q', m_gleemake_Stream_Order L q (n : Int) = some (o, q') ∧ q ≤ q' ∧ q' ≤ q + 100 ∧ o.length = n ∧ ∀ i ∈ o, 0 ≤ i ∧ i < (n : Int) := by
  unfold m_gleemake_Stream_Order
  rw [rangeI_of (by omega), Option.bind_some]
  obtain ⟨u, h1, h2, h3⟩ := rangeM_invx m_gleemake_Stream_Order_l1 (List.range (n : Int).toNat) (fun i u => u.length = i ∧ ∀ z ∈ u, 0 ≤ z ∧ z < (n : Int)) (by
    rintro i x u hx ⟨g1, g2⟩
    have hi := (List.getElem?_eq_some_iff.1 hx).1
    rw [List.length_range] at hi
    unfold m_gleemake_Stream_Order_l1
    rw [appM_of (by simp; omega) (by omega), Option.bind_some]
    refine ⟨_, rfl, by simp [g1], fun z hz => ?_⟩
    rcases List.mem_append.1 hz with h | h
    · exact g2 z h
    · simp at h; omega) [] ⟨rfl, by simp⟩
  rw [h1, Option.bind_some, fin_brk]
  rw [List.length_range] at h2
  obtain ⟨f, h4, h5⟩ := loopM_post (m_gleemake_Stream_Order_l2 L) (fun s => s.1 < n ∧ (n = 0 ∨ 0 ≤ s.1) ∧ (n = 0 → s.1 = -1) ∧ q ≤ s.2.1 ∧ s.2.1 + s.1 ≤ q + n ∧ s.2.2.length = n ∧ ∀ z ∈ s.2.2, 0 ≤ z ∧ z < (n : Int)) (fun s => s.1.toNat)
    (fun f => ∃ s, f = .brk s ∧ q ≤ s.2.1 ∧ s.2.1 ≤ q + 100 ∧ s.2.2.length = n ∧ ∀ z ∈ s.2.2, 0 ≤ z ∧ z < (n : Int)) (by
    rintro ⟨j, r, u⟩ ⟨g1, g2, g3, g4, g5, g6, g7⟩
    simp only at g1 g2 g3 g4 g5 g6 g7
    unfold m_gleemake_Stream_Order_l2
    simp only
    by_cases hj : j > 0
    · obtain ⟨v, hv, hv1, hv2⟩ := Next_spec L (p := r) (n := w64 (j + 1)) (by omega) (by omega) (by rw [w64_id (by omega)]; omega)
      have hv2 := hv2 (by rw [w64_id (by omega)]; omega)
      rw [w64_id (n := j + 1) (by omega)] at hv2
      have e1 : u[v.toNat]? = some (u[v.toNat]'(by omega)) := List.getElem?_eq_getElem _
      have e2 : u[j.toNat]? = some (u[j.toNat]'(by omega)) := List.getElem?_eq_getElem _
      rw [decide_eq_true hj, ifB_true, hv, Option.bind_some]
      simp only
      rw [getI_of (n := v.toNat) (by omega) e1, Option.bind_some, getI_of (n := j.toNat) (by omega) e2, Option.bind_some, Option.bind_some,
        getI_of (n := v.toNat) (by omega) (List.getElem?_eq_getElem (by rw [List.length_set]; omega)), Option.bind_some]
      refine .inl ⟨_, rfl, ⟨?_, ?_, ?_, ?_, ?_, ?_, ?_⟩, ?_⟩
      · simp only; rw [w64_id (by omega)]; omega
      · simp only; rw [w64_id (by omega)]; omega
      · omega
      · simp only; omega
      · simp only; rw [w64_id (by omega)]; omega
      · simp [g6]
      · intro z hz
        simp only at hz
        rcases List.mem_or_eq_of_mem_set hz with h | h
        · rcases List.mem_or_eq_of_mem_set h with h | h
          · exact g7 z h
          · subst h; exact g7 _ (List.getElem_mem _)
        · subst h; exact g7 _ (List.getElem_mem _)
      · simp only; rw [w64_id (by omega)]; omega
    · rw [decide_eq_false hj, ifB_false]
      exact .inr (.inl ⟨_, rfl, _, rfl, g4, by simp only; omega, g6, g7⟩)) (w64 ((n : Int) - 1), q, u) (by
    simp only
    rw [w64_id (by omega)]
    refine ⟨by omega, by omega, by omega, by omega, by omega, by omega, h3⟩)
  obtain ⟨s, rfl, h6, h7, h8, h9⟩ := h5
  rw [h4, Option.bind_some, fin_brk]
  exact ⟨_, _, rfl, h6, h7, h8, h9⟩
theorem keys_of {p : TProgram} {e : Int} (he : m_gleeref2_ProgramFault p = some e) (h0 : e = 0) : (p.Items.map (·.Key)).Nodup := by
  subst h0
  refine ItemsFault_keys _ ?_
  unfold m_gleeref2_ProgramFault at he
  obtain ⟨z, hz, he⟩ := bindS he
  by_cases h : z = 0
  · subst h; exact hz
  · rw [show (z != 0) = true by simpa using h, ifB_true] at he
    cases he
    exact absurd rfl h
/-- THE LAW: at every seed the answer is true. -/
theorem ConcertsOrdered_true (L : List Int) : m_gleelaw2_ConcertsOrdered L = some true := by
  unfold m_gleelaw2_ConcertsOrdered
  obtain ⟨p, q, h1, h2, h3, h4⟩ := AProgram_spec L (q := 0) (most := 5) (by omega) (by omega) (by omega) (by omega)
  obtain ⟨e, he, hok⟩ := ProgramFault_total p
  obtain ⟨o, n, hO1, hO2⟩ := Order_spec he hok (keys_of he) (by omega)
  obtain ⟨k, d, hH1, hH2⟩ := Half_spec he hok
  rw [h1, Option.bind_some]
  simp only
  rw [hO1, Option.bind_some, hH1, Option.bind_some, he, Option.bind_some]
  have r1 : ∀ z : Int, (z != z) = false := fun z => by simp
  rw [when_spec, Option.bind_some, errs_spec, Option.bind_some, when_spec, Option.bind_some, errs_spec, Option.bind_some]
  have e1 : fst0 [e, bif decide ((p.Items.length : Int) > 7) then 2 else 0] = e := by
    rw [decide_eq_false (by omega)]; unfold fst0 fst0 fst0; split <;> simp_all
  have e2 : fst0 [e, bif decide ((p.Items.length : Int) < 2) then 8 else 0] = if e = 0 then (if 2 ≤ p.Items.length then 0 else 8) else e := by
    by_cases a : e = 0
    · by_cases b : 2 ≤ p.Items.length
      · rw [decide_eq_false (by omega), if_pos a, if_pos b, a]; rfl
      · rw [decide_eq_true (by omega), if_pos a, if_neg b, a]; rfl
    · rw [if_neg a]; unfold fst0; rw [if_neg a]
  rw [e1, e2]
  have g1 : (ifB (e == 0) ((m_gleeref2_BestOrder p).bind fun y20 => some (.inl (y20.2, y20.1))) (some (.inl (0, []))) : Option ((Int × (List ByteArray)) ⊕ Bool)) = some (.inl (if e = 0 then n else 0, if e = 0 then o else [])) := by
    by_cases a : e = 0
    · rw [show (e == 0) = true by simpa using a, ifB_true, hO2 a, if_pos a, if_pos a]; rfl
    · rw [show (e == 0) = false by simpa using a, ifB_false, if_neg a, if_neg a]
  have g2 : (ifB ((if e = 0 then (if 2 ≤ p.Items.length then (0 : Int) else 8) else e) == 0) ((m_gleeref2_HalfOf p).bind fun y26 => some (.inl (y26.1, y26.2))) (some (.inl (0, 0))) : Option ((Int × Int) ⊕ Bool)) = some (.inl (if e = 0 ∧ 2 ≤ p.Items.length then k else 0, if e = 0 ∧ 2 ≤ p.Items.length then d else 0)) := by
    by_cases a : e = 0
    · by_cases b : 2 ≤ p.Items.length
      · rw [if_pos a, if_pos b, hH2 a b, if_pos ⟨a, b⟩, if_pos ⟨a, b⟩]; rfl
      · rw [if_pos a, if_neg b, if_neg (fun h => b h.2), if_neg (fun h => b h.2)]; rfl
    · rw [if_neg a, if_neg (fun h => a h.1), if_neg (fun h => a h.1), show (e == 0) = false by simpa using a]; rfl
  rw [g1, Option.bind_some, fin_inl, g2, Option.bind_some, fin_inl]
  simp only [r1, ifB_false, EqualS_refl, Option.bind_some, Bool.not_true, fin_inl]
  obtain ⟨dr, q1, d1, d2, d3, d4, d5⟩ := Order_draw L (q := q) (n := p.Items.length) (by omega) (by omega) (by omega)
  rw [d1, Option.bind_some]
  simp only
  obtain ⟨u, l1, l2⟩ := rangeM_invx (m_gleelaw2_ConcertsOrdered_l1 (p, q)) dr (fun i u => u.length = i) (by
    rintro i x u hx rfl
    have hi := (List.getElem?_eq_some_iff.1 hx).1
    have hx' := d5 x (List.mem_of_getElem? hx)
    unfold m_gleelaw2_ConcertsOrdered_l1
    simp only
    rw [getI_of (n := x.toNat) (by omega) (List.getElem?_eq_getElem (by omega)), Option.bind_some, appM_of (by simp; omega) (by omega), Option.bind_some]
    exact ⟨_, rfl, by simp⟩) [] rfl
  rw [l1, Option.bind_some, fin_brk]
  obtain ⟨b, hb⟩ := Flip_spec L (p := q1) (n := 6) (by omega) (by omega) (by omega)
  rw [hb, Option.bind_some]
  simp only
  have g3 : ∃ w : List ByteArray, (ifB b ((m_gleemake_Stream_Some L (q1 + 1) [(ByteArray.mk [97].toArray), (ByteArray.mk [122, 122].toArray)]).bind fun y53 => (appM 16 u [y53.1]).bind fun q55 => (m_gleemake_Stream_Range L y53.2 0 1).bind fun y57 => (sliceI q55 (min 1 y57.1) (q55.length : Int)).bind fun q58 => some (.inl q58)) (some (.inl u)) : Option ((List ByteArray) ⊕ Bool)) = some (.inl w) := by
    cases b with
    | false => exact ⟨u, rfl⟩
    | true =>
      obtain ⟨v, hv, -⟩ := Some_spec L (p := q1 + 1) [(ByteArray.mk [97].toArray), (ByteArray.mk [122, 122].toArray)] (by omega) (by omega) (by simp) (by simp)
      rw [ifB_true, hv, Option.bind_some]
      simp only
      rw [appM_of (by simp; omega) (by omega), Option.bind_some]
      obtain ⟨r, hr, hr1, hr2⟩ := Range_spec L (p := q1 + 1 + 1) (a := 0) (b := 1) (by omega) (by omega) (by omega) (by omega) (by omega)
      rw [hr, Option.bind_some]
      simp only
      rw [sliceI_of (a := (min 1 r).toNat) (b := (u ++ [v]).length) (by omega) rfl (by simp; omega) (Nat.le_refl _)]
      exact ⟨_, rfl⟩
  obtain ⟨w, hw⟩ := g3
  rw [hw, Option.bind_some, fin_inl]
  obtain ⟨m, g, hM1, hM2⟩ := Moved_spec he hok w
  rw [hM1, Option.bind_some]
  have g4 : (ifB (e == 0) ((m_gleeref2_MovedProgram p w).bind fun y69 => some (.inl (y69.2, y69.1.Change, y69.1.Clap, y69.1.Break, y69.1.Half, y69.1.Items))) (some (.inl (e, 0, 0, 0, 0, []))) : Option ((Int × Int × Int × Int × Int × (List TItem)) ⊕ Bool)) =
      some (.inl (if e = 0 then g else e, (if e = 0 then m else ⟨[], 0, 0, 0, 0⟩).Change, (if e = 0 then m else ⟨[], 0, 0, 0, 0⟩).Clap, (if e = 0 then m else ⟨[], 0, 0, 0, 0⟩).Break, (if e = 0 then m else ⟨[], 0, 0, 0, 0⟩).Half, (if e = 0 then m else ⟨[], 0, 0, 0, 0⟩).Items)) := by
    by_cases a : e = 0
    · rw [show (e == 0) = true by simpa using a, ifB_true, hM2 a]; simp only [if_pos a]; rfl
    · rw [show (e == 0) = false by simpa using a, ifB_false]; simp only [if_neg a]
  rw [g4, Option.bind_some, fin_inl]
  simp only [beq_self_eq_true, ifB_true]
  rw [SameProgram_refl, Option.bind_some, ifB_true, sung_true]; rfl
end Go.G
