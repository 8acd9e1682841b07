/- LH4: Shared, Shift and Keys. In plain Lean, no program in sight. -/
import Derived.Test.YtndkkkgkmeijlaaDoorLH3
namespace Go.G
open Go Go.J
theorem right_tones {c : TChord} (h : ∃ r k t, Right c r k t) : ∃ T, m_chord_tones c = some T ∧ m_gleeref2_TonesOf c = some T ∧ T.length ≤ 4 ∧ ∀ x ∈ T, 0 ≤ x ∧ x ≤ 11 := by
  obtain ⟨r, k, t, rfl, hr, hk, ht⟩ := h
  have := klen_le hk
  exact tones_spec hr hk (t := t) (by omega)
theorem ChordsFault_cons {c : TChord} {ec : Int} (hc : m_gleeref2_ChordFault c = some ec) (i : Nat) (l : List TChord) : rangeM m_gleeref2_ChordsFault_l1 i (c :: l) () = if ec = 0 then rangeM m_gleeref2_ChordsFault_l1 (i + 1) l () else some (.ret ec) := by
  rw [rangeM_cons]
  unfold m_gleeref2_ChordsFault_l1
  rw [hc, Option.bind_some]
  by_cases h : ec = 0
  · rw [if_pos h, show (ec != 0) = false by simpa using h]; rfl
  · rw [if_neg h, show (ec != 0) = true by simpa using h]; rfl
theorem checkAll2 {a b : TChord} {ea eb : Int} (ha : m_gleeref2_ChordFault a = some ea) (hb : m_gleeref2_ChordFault b = some eb) : m_chord_checkAll [a, b] = some (if ea = 0 then eb else ea) := by
  rw [checkAll_eq, ChordsFault_cons ha]
  by_cases h : ea = 0
  · rw [if_pos h, if_pos h, ChordsFault_cons hb]
    by_cases h2 : eb = 0
    · rw [if_pos h2, h2]; rfl
    · rw [if_neg h2]; rfl
  · rw [if_neg h, if_neg h]; rfl
theorem Shared_spec {a b : TChord} {ea eb : Int} (ha : m_gleeref2_ChordFault a = some ea) (hb : m_gleeref2_ChordFault b = some eb) (hra : ea = 0 → ∃ r k t, Right a r k t) (hrb : eb = 0 → ∃ r k t, Right b r k t) :
    ∃ w, m_chord_Shared a b = some (if (if ea = 0 then eb else ea) = 0 then w else 0, if ea = 0 then eb else ea) ∧ ((if ea = 0 then eb else ea) = 0 → m_gleeref2_SharedOf a b = some w) := by
  unfold m_chord_Shared
  rw [checkAll2 ha hb, Option.bind_some]
  by_cases h : (if ea = 0 then eb else ea) = 0
  · rw [h]
    have h0 : ea = 0 ∧ eb = 0 := by
      by_cases h1 : ea = 0
      · rw [if_pos h1] at h; exact ⟨h1, h⟩
      · rw [if_neg h1] at h; exact absurd h h1
    obtain ⟨T, h1, h2, h3, -⟩ := right_tones (hra h0.1)
    obtain ⟨U, h4, h5, h6, -⟩ := right_tones (hrb h0.2)
    obtain ⟨s, s', g1, g2, g3, g4⟩ := rangeM_rel2 (m_chord_Shared_l1 b) (m_gleeref2_SharedOf_l1 b) T (fun n s s' => s' = s ∧ 0 ≤ s ∧ s ≤ n) (by
      rintro i x s s' hx ⟨rfl, p1, p2⟩
      have hi := (List.getElem?_eq_some_iff.1 hx).1
      unfold m_chord_Shared_l1 m_gleeref2_SharedOf_l1
      rw [h4, h5, Option.bind_some, Option.bind_some, Contains_spec, Option.bind_some, Option.bind_some, w64_id (by omega)]
      cases U.any (fun y => x == y) with
      | true => exact ⟨_, _, rfl, rfl, rfl, by omega, by omega⟩
      | false => exact ⟨_, _, rfl, rfl, rfl, by omega, by omega⟩) 0 0 ⟨rfl, by omega, by omega⟩
    subst g3
    refine ⟨s', ?_, fun _ => ?_⟩
    · rw [show ((0 : Int) != 0) = false from rfl, ifB_false, h1, Option.bind_some, g1, Option.bind_some, fin_brk, if_pos rfl]
    · unfold m_gleeref2_SharedOf
      rw [h2, Option.bind_some, g2, Option.bind_some, fin_brk]
  · generalize (if ea = 0 then eb else ea) = e at h
    have : (e != 0) = true := by simpa using h
    rw [this, ifB_true]
    exact ⟨0, by rw [if_neg h], fun h2 => absurd h2 h⟩
theorem Shift_spec {a : TChord} {ea : Int} (ha : m_gleeref2_ChordFault a = some ea) (t : Int) :
    ∃ w, m_chord_Shift a t = some (if ea = 0 ∧ -127 ≤ t ∧ t ≤ 127 then w else ⟨0, 0, 0⟩, if ea = 0 then (if -127 ≤ t ∧ t ≤ 127 then 0 else 1) else ea) ∧ m_gleeref2_ShiftedChord a t = some w := by
  refine ⟨_, ?_, rfl⟩
  unfold m_chord_Shift
  rw [CheckChord_eq, ha, Option.bind_some]
  by_cases h : ea = 0
  · subst h
    rw [show ((0 : Int) != 0) = false from rfl, ifB_false, Outside_spec, Option.bind_some]
    by_cases h1 : -127 ≤ t ∧ t ≤ 127
    · rw [decide_eq_true h1, Bool.not_true, ifB_false, if_pos ⟨rfl, h1⟩, if_pos rfl, if_pos h1]
    · rw [decide_eq_false h1, Bool.not_false, ifB_true, if_neg (fun h => h1 h.2), if_pos rfl, if_neg h1]
  · have : (ea != 0) = true := by simpa using h
    rw [this, ifB_true, if_neg (fun h2 => h h2.1), if_neg h]
theorem ChordsFault_total (l : List TChord) (n : Int) : ∃ e, m_gleeref2_ChordsFault l n = some e ∧ (e = 0 → ∀ c ∈ l, ∃ r k t, Right c r k t) := by
  unfold m_gleeref2_ChordsFault
  by_cases h : (l.length : Int) > n
  · rw [decide_eq_true h]; exact ⟨2, rfl, by simp⟩
  · rw [decide_eq_false h, ifB_false]
    obtain ⟨f, h1, h2⟩ := rangeM_stop m_gleeref2_ChordsFault_l1 l (fun i _ => ∀ c ∈ l.take i, ∃ r k t, Right c r k t) (fun f => match f with | .nxt _ => False | .brk _ => ∀ c ∈ l, ∃ r k t, Right c r k t | .ret e => e ≠ 0) (by
      intro i x s hx hI
      obtain ⟨e, he, hr⟩ := ChordFault_total x
      unfold m_gleeref2_ChordsFault_l1
      rw [he, Option.bind_some]
      by_cases h0 : e = 0
      · rw [show (e != 0) = false by simpa using h0]
        refine ⟨_, rfl, fun _ _ c hc => ?_, by simp, by simp⟩
        rw [List.take_add_one, hx] at hc
        rcases List.mem_append.1 hc with h | h
        · exact hI c h
        · simp at h; subst h; exact hr h0
      · rw [show (e != 0) = true by simpa using h0]
        exact ⟨_, rfl, by simp, by simp, fun v hv => by cases hv; exact h0⟩) (fun s hI c hc => hI c (by rw [List.take_length]; exact hc)) () (by simp)
    rw [h1, Option.bind_some]
    cases f with
    | nxt s => exact h2.elim
    | brk s => exact ⟨0, rfl, fun _ => h2⟩
    | ret e => exact ⟨e, rfl, fun h => absurd h h2⟩
def scale (i : Nat) : List Int := ([0, 2, 4, 5, 7, 9, 11] : List Int).map fun x => (w64 ((i : Int) + x)).tmod 12
def chkK (i t : Nat) : Bool := (([0, 2, 4, 5, 7, 9, 11] : List Int).any fun y => (w64 ((w64 ((t : Int) - (i : Int))) + 12)).tmod 12 == y) == (scale i).any fun y => (t : Int) == y
theorem chkK_all : ((List.range 12).all fun i => (List.range 12).all fun t => chkK i t) = true := by decide +kernel
theorem any_cg {α : Type} {f g : α → Bool} : ∀ {l : List α}, (∀ x, x ∈ l → f x = g x) → l.any f = l.any g
  | [], _ => rfl
  | a :: l, h => by rw [List.any_cons, List.any_cons, h a (List.mem_cons_self ..), any_cg fun x hx => h x (List.mem_cons_of_mem _ hx)]
theorem Keys_spec {l : List TChord} {e : Int} (he : m_gleeref2_ChordsFault l 144 = some e) (hr : e = 0 → ∀ c ∈ l, ∃ r k t, Right c r k t) :
    ∃ w, m_chord_Keys l = some (if e = 0 then w else [], e) ∧ (e = 0 → m_gleeref2_KeysOf l = some w) := by
  unfold m_chord_Keys
  rw [rowFault_eq, he, Option.bind_some]
  by_cases h0 : e = 0
  · subst h0
    have hr := hr rfl
    obtain ⟨s, s', g1, g2, g3, g4⟩ := rangeM_rel2 (m_chord_Keys_l1 l) (m_gleeref2_KeysOf_l1 l) (List.range 12) (fun n s s' => s' = s ∧ s.length ≤ n) (by
      rintro i x s s' hx ⟨rfl, hs⟩
      have hi : i < 12 := by have := (List.getElem?_eq_some_iff.1 hx).1; simpa using this
      unfold m_chord_Keys_l1 m_gleeref2_KeysOf_l1
      have hsc : rangeM (ρ := Flow (List Int) (List Int)) (m_gleeref2_KeysOf_l2 i) 0 [0, 2, 4, 5, 7, 9, 11] [] = some (.brk (scale i)) := by
        rw [rangeM_filterMap (m_gleeref2_KeysOf_l2 i) (fun x => some ((w64 ((i : Int) + x)).tmod 12)) _ (fun j x s hx hs => by
          have hj := (List.getElem?_eq_some_iff.1 hx).1
          simp at hj
          unfold m_gleeref2_KeysOf_l2
          rw [appM_of (by simp; omega) (by omega)]; rfl), List.filterMap_eq_map']
        rfl
      have hA : m_slices_ContainsFunc_api_Chord_api_Chord__chord_Keys_1__chord_Keys_2 l [0, 2, 4, 5, 7, 9, 11] (i : Int) = some (l.any fun c => (TO c).any fun t => !([0, 2, 4, 5, 7, 9, 11] : List Int).any fun y => (w64 ((w64 (t - (i : Int))) + 12)).tmod 12 == y) :=
        cfM_spec (fun c => m_chord_Keys_2__chord_Keys_1 c [0, 2, 4, 5, 7, 9, 11] (i : Int)) _ l (fun c hc => by
          obtain ⟨T, h1, h2, -, -⟩ := right_tones (hr c hc)
          have hTO : TO c = T := by unfold TO; rw [h2]; rfl
          unfold m_chord_Keys_2__chord_Keys_1
          rw [h1, Option.bind_some, hTO]
          have h3 : m_slices_ContainsFunc_int_int__chord_Keys_1 T [0, 2, 4, 5, 7, 9, 11] (i : Int) = some (T.any fun t => !([0, 2, 4, 5, 7, 9, 11] : List Int).any fun y => (w64 ((w64 (t - (i : Int))) + 12)).tmod 12 == y) :=
            cfM_spec (fun t => m_chord_Keys_1 t [0, 2, 4, 5, 7, 9, 11] (i : Int)) _ T (fun t _ => by unfold m_chord_Keys_1; rw [Contains_spec]; rfl)
          rw [h3]; rfl)
      have hB : m_slices_ContainsFunc_api_Chord_api_Chord__gleeref2_KeysOf_1 l (scale i) = some (l.any fun c => (TO c).any fun t => !(scale i).any fun y => t == y) :=
        cfM_spec (fun c => m_gleeref2_KeysOf_1 c (scale i)) _ l (fun c hc => by
          obtain ⟨T, h1, h2, -, -⟩ := right_tones (hr c hc)
          have hTO : TO c = T := by unfold TO; rw [h2]; rfl
          unfold m_gleeref2_KeysOf_1
          rw [h2, Option.bind_some, hTO]
          have h3 : m_slices_ContainsFunc_int_int__gleeref2_KeysOf_1_1 T (scale i) = some (T.any fun t => !(scale i).any fun y => t == y) :=
            cfM_spec (fun t => m_gleeref2_KeysOf_1_1 t (scale i)) _ T (fun t _ => by unfold m_gleeref2_KeysOf_1_1; rw [Contains_spec]; rfl)
          rw [h3]; rfl)
      have hAB : (l.any fun c => (TO c).any fun t => !([0, 2, 4, 5, 7, 9, 11] : List Int).any fun y => (w64 ((w64 (t - (i : Int))) + 12)).tmod 12 == y) = l.any fun c => (TO c).any fun t => !(scale i).any fun y => t == y := by
        refine any_cg fun c hc => any_cg fun t ht => ?_
        obtain ⟨T, h1, h2, -, h4⟩ := right_tones (hr c hc)
        have hTO : TO c = T := by unfold TO; rw [h2]; rfl
        rw [hTO] at ht
        have h5 := h4 t ht
        have h6 := chkK_all
        rw [List.all_eq_true] at h6
        have h6 := h6 i (List.mem_range.2 hi)
        rw [List.all_eq_true] at h6
        have h6 := h6 t.toNat (List.mem_range.2 (by omega))
        unfold chkK at h6
        rw [Int.toNat_of_nonneg h5.1] at h6
        rw [eq_of_beq h6]
      rw [hA, Option.bind_some, hsc, Option.bind_some, fin_brk, hB, Option.bind_some, hAB]
      cases (l.any fun c => (TO c).any fun t => !(scale i).any fun y => t == y) with
      | true => exact ⟨_, _, rfl, rfl, rfl, by omega⟩
      | false =>
        rw [Bool.not_false, ifB_true, ifB_true, appM_of (by simp; omega) (by omega)]
        exact ⟨_, _, rfl, rfl, rfl, by simp; omega⟩) [] [] ⟨rfl, by simp⟩
    subst g3
    refine ⟨s', ?_, fun _ => ?_⟩
    · rw [show ((0 : Int) != 0) = false from rfl, ifB_false, show rangeI 12 = some (List.range 12) from rfl, Option.bind_some, g1, Option.bind_some, fin_brk, if_pos rfl]
    · unfold m_gleeref2_KeysOf
      rw [show rangeI 12 = some (List.range 12) from rfl, Option.bind_some, g2, Option.bind_some, fin_brk]
  · have : (e != 0) = true := by simpa using h0
    rw [this, ifB_true]
    exact ⟨[], by rw [if_neg h0], fun h => absurd h h0⟩
end Go.G
