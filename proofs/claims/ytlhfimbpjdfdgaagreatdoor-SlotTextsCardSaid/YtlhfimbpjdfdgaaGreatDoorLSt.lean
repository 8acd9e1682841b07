/- LSt: SlotTexts' law. In plain Lean, no program in sight. -/
import Derived.Test.YtlhfimbpjdfdgaaGreatDoorLSw
import Derived.Test.YtlhfimbpjdfdgaaGreatDoorLSd
import Derived.Test.YtlhfimbpjdfdgaaGreatDoorLRt
namespace Go.G
open Go Go.J
set_option linter.unusedSimpArgs false
set_option linter.unusedVariables false
def partsB (x : TSlot) : BL := if x.Parts = [] then [45] else jn 44 (x.Parts.map bs)
def slotB (x : TSlot) : BL := jn 32 [bs x.Key, bs x.Room, bs x.Piece, partsB x, Lib.itoa x.Time.From, Lib.itoa x.Time.To] ++ [10]
structure SlotSz (x : TSlot) : Prop where
  key : (bs x.Key).length ≤ 40
  room : (bs x.Room).length ≤ 40
  piece : (bs x.Piece).length ≤ 40
  len : x.Parts.length ≤ 12
  parts : ∀ z ∈ x.Parts, 1 ≤ (bs z).length ∧ (bs z).length ≤ 40
  frm : -9223372036854775808 ≤ x.Time.From ∧ x.Time.From ≤ 9223372036854775807
  to : -9223372036854775808 ≤ x.Time.To ∧ x.Time.To ≤ 9223372036854775807
theorem bs_size (s : ByteArray) : (bs s).length = s.size := (size_data s).symm
theorem key_rng {s : ByteArray} (h : isKey s = true) : 1 ≤ (bs s).length ∧ (bs s).length ≤ 40 := by
  unfold isKey at h
  simp only [Bool.and_eq_true, decide_eq_true_eq] at h
  rw [bs_size]; omega
theorem SlotOK.sz {x : TSlot} (h : SlotOK x) : SlotSz x := by
  have ht := of_decide_eq_true h.time
  exact ⟨(key_rng h.key).2, (key_rng h.room).2, (key_rng h.piece).2, h.len, fun z hz => key_rng (h.parts z hz), by omega, by omega⟩
theorem SlotDr.sz {x : TSlot} (h : SlotDr x) : SlotSz x := by
  have ht := h.time
  exact ⟨by rw [bs_size]; exact h.key, by rw [bs_size]; exact h.room, by rw [bs_size]; exact h.piece, h.len, fun z hz => by rw [bs_size]; exact h.parts z hz, by omega, by omega⟩
theorem parts_len {x : TSlot} (h : SlotSz x) : (jn 44 (x.Parts.map bs)).length ≤ 500 := by
  have key : ∀ (l : List ByteArray), (∀ z ∈ l, 1 ≤ (bs z).length ∧ (bs z).length ≤ 40) → (((l.map bs)).map (·.length + 1)).sum ≤ 41 * l.length := by
    intro l
    induction l with
    | nil => intro _; simp
    | cons z l ih =>
      intro hz
      have h2 := ih fun y hy => hz y (List.mem_cons_of_mem _ hy)
      have h3 := hz z (List.mem_cons_self ..)
      simp only [List.map_cons, List.sum_cons, List.length_cons] at h2 ⊢
      omega
  have h2 : (jn 44 (x.Parts.map bs)).length ≤ 41 * x.Parts.length := Nat.le_trans (jn_len 44 (x.Parts.map bs)) (key x.Parts h.parts)
  have h3 := h.len
  omega
theorem partsB_len {x : TSlot} (h : SlotSz x) : (partsB x).length ≤ 500 := by
  have := parts_len h
  unfold partsB
  split
  · decide
  · exact this
theorem slotB_len {x : TSlot} (h : SlotSz x) : (slotB x).length ≤ 700 := by
  have h1 := partsB_len h
  have h2 := itoa_len h.frm; have h3 := itoa_len h.to
  have h4 := h.key; have h5 := h.room; have h6 := h.piece
  unfold slotB
  simp only [jn, List.length_append, List.length_cons, List.length_nil]
  omega
theorem jn_nonempty {x : TSlot} (h : SlotSz x) (hp : x.Parts ≠ []) : jn 44 (x.Parts.map bs) ≠ [] := by
  intro e
  cases hP : x.Parts with
  | nil => exact hp hP
  | cons z t =>
    have hz := h.parts z (by rw [hP]; exact List.mem_cons_self ..)
    rw [hP] at e
    cases t with
    | nil =>
      have e' : bs z = [] := e
      rw [e'] at hz; simp at hz
    | cons y t =>
      have e' : bs z ++ 44 :: jn 44 ((y :: t).map bs) = [] := e
      simp at e'
theorem Text_l1 {x : TSlot} (h : SlotSz x) (i : Nat) (u : BL) (hu : u.length ≤ 900000) : m_rehearse_Text_l1 i x (toB u) = some (.nxt (toB (u ++ slotB x))) := by
  have hl := slotB_len h
  have hp := parts_len h
  have hn := h.len
  unfold m_rehearse_Text_l1
  rw [show (ByteArray.mk [44].toArray) = oneB 44 from rfl, Join_spec 44 x.Parts (by omega) (by show (jn 44 (x.Parts.map bs)).length ≤ _; omega), Option.bind_some]
  have hd : m_kit_Dash (toB (jn 44 (x.Parts.map fun y => y.data.toList))) = some (toB (partsB x)) := by
    show m_kit_Dash (toB (jn 44 (x.Parts.map bs))) = _
    unfold m_kit_Dash partsB
    rw [ba_nil, data_toB]
    by_cases hP : x.Parts = []
    · rw [hP, if_pos rfl]; rfl
    · rw [if_neg hP, decide_eq_false (jn_nonempty h hP)]; rfl
  rw [hd, Option.bind_some, Itoa_is h.frm, Option.bind_some, Itoa_is h.to, Option.bind_some]
  have e : ([x.Key, x.Room, x.Piece, toB (partsB x), toB (Lib.itoa x.Time.From), toB (Lib.itoa x.Time.To)].map fun y => y.data.toList) = [bs x.Key, bs x.Room, bs x.Piece, partsB x, Lib.itoa x.Time.From, Lib.itoa x.Time.To] := by simp [bs, data_toB]
  rw [kitJoin_spec _ (by simp) (by
    rw [e]
    unfold slotB at hl
    rw [List.length_append] at hl
    omega), Option.bind_some, e]
  rw [show jn 32 [bs x.Key, bs x.Room, bs x.Piece, partsB x, Lib.itoa x.Time.From, Lib.itoa x.Time.To] ++ [10] = slotB x from rfl, write_is (by omega)]; rfl
theorem SlotLines_l1 {x : TSlot} (h : SlotSz x) (i : Nat) (u : BL) (hu : u.length ≤ 900000) : m_gleeref2_SlotLines_l1 i x (toB u) = some (.nxt (toB (u ++ slotB x))) := by
  have hl := slotB_len h
  have hp := parts_len h
  have hpb := partsB_len h
  have hn := h.len
  have h2 := itoa_len h.frm; have h3 := itoa_len h.to
  have h4 := h.key; have h5 := h.room; have h6 := h.piece
  have hlist : m_gleeref2_list x.Parts = some (toB (partsB x)) := by
    unfold m_gleeref2_list partsB
    by_cases hP : x.Parts = []
    · rw [hP, if_pos rfl]; rfl
    · rw [if_neg hP, show ((x.Parts.length : Int) == 0) = false by simpa using hP, ifB_false, show (ByteArray.mk [44].toArray) = oneB 44 from rfl, Join_spec 44 x.Parts (by omega) (by show (jn 44 (x.Parts.map bs)).length ≤ _; omega)]; rfl
  unfold m_gleeref2_SlotLines_l1
  rw [hlist, Numbers_is [x.Time.From, x.Time.To] (by simp) (by
    intro n hn
    simp only [List.mem_cons, List.not_mem_nil, or_false] at hn
    rcases hn with rfl | rfl
    · exact h.frm
    · exact h.to), ba_bs x.Key, ba_bs x.Room, ba_bs x.Piece, eB, eN]
  simp only [List.map_cons, List.map_nil, jn]
  have go : ∀ {a b : BL} {F : ByteArray → Option (Flow ByteArray ByteArray)}, a.length + b.length ≤ 1000000 → (catM (toB a) (toB b)).bind F = F (toB (a ++ b)) := fun hab => by rw [cat_is hab, Option.bind_some]
  rw [go (by simp only [List.length_append, List.length_cons, List.length_nil]; omega), go (by simp only [List.length_append, List.length_cons, List.length_nil]; omega), go (by simp only [List.length_append, List.length_cons, List.length_nil]; omega), go (by simp only [List.length_append, List.length_cons, List.length_nil]; omega), go (by simp only [List.length_append, List.length_cons, List.length_nil]; omega), Option.bind_some, go (by simp only [List.length_append, List.length_cons, List.length_nil]; omega), go (by simp only [List.length_append, List.length_cons, List.length_nil]; omega), Option.bind_some, go (by simp only [List.length_append, List.length_cons, List.length_nil]; omega), go (by simp only [List.length_append, List.length_cons, List.length_nil]; omega), go (by simp only [List.length_append, List.length_cons, List.length_nil]; omega)]
  congr 2
  simp [slotB, jn]
theorem flat_len {l : List TSlot} (hs : ∀ x ∈ l, SlotSz x) : (l.flatMap slotB).length ≤ 700 * l.length := by
  induction l with
  | nil => simp
  | cons x l ih =>
    have h1 := ih fun y hy => hs y (List.mem_cons_of_mem _ hy)
    have h2 := slotB_len (hs x (List.mem_cons_self ..))
    simp only [List.flatMap_cons, List.length_append, List.length_cons]
    omega
theorem SlotLines_spec {l : List TSlot} (h : ∀ x ∈ l, SlotSz x) (hl : l.length ≤ 200) : m_gleeref2_SlotLines l = some (toB (l.flatMap slotB)) := by
  unfold m_gleeref2_SlotLines
  obtain ⟨u, g1, g2⟩ := rangeM_invx m_gleeref2_SlotLines_l1 l (fun i u => u = toB ((l.take i).flatMap slotB)) (by
    rintro i x u hx rfl
    have hi := (List.getElem?_eq_some_iff.1 hx).1
    have hfl := flat_len (l := l.take i) (fun y hy => h y (List.take_subset _ _ hy))
    rw [List.length_take] at hfl
    refine ⟨_, SlotLines_l1 (h x (List.mem_of_getElem? hx)) i _ (by omega), ?_⟩
    rw [List.take_add_one, hx]
    simp [List.flatMap_append]) ByteArray.empty rfl
  rw [g1, Option.bind_some, fin_brk, g2, List.take_length]
theorem Text_spec {l : List TSlot} (h0 : slotsF l = 0) (hl : l.length ≤ 200) : m_rehearse_Text l = some (toB (l.flatMap slotB), 0) := by
  have h : ∀ x ∈ l, SlotSz x := fun x hx => (((slots_spec l).2.2 h0).2 x hx).sz
  unfold m_rehearse_Text
  rw [(slots_spec l).1, h0, Option.bind_some, show ((0 : Int) != 0) = false from rfl, ifB_false]
  obtain ⟨u, g1, g2⟩ := rangeM_invx m_rehearse_Text_l1 l (fun i u => u = toB ((l.take i).flatMap slotB)) (by
    rintro i x u hx rfl
    have hi := (List.getElem?_eq_some_iff.1 hx).1
    have hfl := flat_len (l := l.take i) (fun y hy => h y (List.take_subset _ _ hy))
    rw [List.length_take] at hfl
    refine ⟨_, Text_l1 (h x (List.mem_of_getElem? hx)) i _ (by omega), ?_⟩
    rw [List.take_add_one, hx]
    simp [List.flatMap_append]) ByteArray.empty rfl
  have := flat_len h
  rw [g1, Option.bind_some, fin_brk, g2, List.take_length, toB_size, decide_eq_false (by omega)]; rfl
theorem EqualSR (a : List ByteArray) : m_slices_Equal_string_string a a = some true := by
  unfold m_slices_Equal_string_string
  rw [show ((a.length : Int) != (a.length : Int)) = false by simp, ifB_false]
  obtain ⟨s, h1, -⟩ := rangeM_invx (m_slices_Equal_string_string_l1 a) a (fun _ _ => True) (by
    intro i x s hx _
    unfold m_slices_Equal_string_string_l1
    rw [getI_of rfl hx, Option.bind_some, show (!(x.toList == x.toList)) = false by simp, ifB_false]
    exact ⟨_, rfl, trivial⟩) () trivial
  rw [h1]; rfl
theorem SameSlot_refl (x : TSlot) : m_gleeref2_SameSlot x x = some true := by
  unfold m_gleeref2_SameSlot
  simp [EqualSR]
theorem EqualSl (a : List TSlot) : m_slices_EqualFunc_api_Slot_api_Slot_api_Slot_api_Slot__gleeref2_SameSlot a a = some true := by
  unfold m_slices_EqualFunc_api_Slot_api_Slot_api_Slot_api_Slot__gleeref2_SameSlot
  rw [show ((a.length : Int) != (a.length : Int)) = false by simp]
  obtain ⟨s, h1, -⟩ := rangeM_invx (m_slices_EqualFunc_api_Slot_api_Slot_api_Slot_api_Slot__gleeref2_SameSlot_l1 a) a (fun _ _ => True) (by
    intro i x s hx _
    unfold m_slices_EqualFunc_api_Slot_api_Slot_api_Slot_api_Slot__gleeref2_SameSlot_l1
    rw [getI_of rfl hx, Option.bind_some, SameSlot_refl, Option.bind_some]
    exact ⟨_, rfl, trivial⟩) () trivial
  rw [h1]; rfl
theorem rehearsed_true : m_gleelaw2_rehearsed = some true := by
  unfold m_gleelaw2_rehearsed
  rw [show (TCame.mk 5 (ByteArray.mk [97, 110, 110].toArray) false) = TCame.mk 5 annB false from rfl, ready_there, Option.bind_some]
  simp only
  rw [show ((0 : Int) == 0) = true from rfl, ifB_true, show [(ByteArray.mk [97, 110, 110].toArray)] = [annB] from rfl, EqualSR]; rfl
theorem SlotText_spec (L : List Int) {q : Int} (hq : 0 ≤ q) (hq' : q ≤ 1000) : ∃ t q', m_gleemake_Stream_SlotText L q = some (t, q') := by
  unfold m_gleemake_Stream_SlotText
  obtain ⟨l, q1, h4, h5, h6, h7, h8⟩ := RightSlots_spec L (p := q) 3 (by omega) hq (by omega)
  have hz : ∀ x ∈ l, SlotSz x := fun x hx => (h8 x hx).sz
  have hlen := flat_len hz
  rw [show ((3 : Int)) = ((3 : Nat) : Int) from rfl, h4, Option.bind_some]
  simp only
  rw [SlotLines_spec hz (by omega), Option.bind_some]
  obtain ⟨v, h12, h13⟩ := Pick_spec L (p := q1) [0, 0, 1, 2] (by omega) (by omega) (by simp) (by simp)
  rw [h12, Option.bind_some]
  simp only
  have hv : 0 ≤ v ∧ v ≤ 2 := by
    simp only [List.mem_cons, List.not_mem_nil, or_false] at h13
    omega
  rw [rangeI_of (by omega), Option.bind_some]
  obtain ⟨s, g1, g2⟩ := rangeM_invx (m_gleemake_Stream_SlotText_l1 L) (List.range v.toNat) (fun i s => ∃ (t : ByteArray) (p : Int), s = (t, p) ∧ 0 ≤ p ∧ p ≤ q1 + 1 + 3 * i ∧ (i = 0 ∧ t.size ≤ 4000 ∨ i = 1 ∧ t.size ≤ 9000 ∨ i = 2)) (by
    rintro i y s hx ⟨t, p, rfl, g2, g3, g4⟩
    have hi : i < v.toNat := by have := (List.getElem?_eq_some_iff.1 hx).1; simpa using this
    unfold m_gleemake_Stream_SlotText_l1
    simp only
    obtain ⟨t', q', k1, k2, k3, k4⟩ := Changed_spec L (q := p) t (ByteArray.mk [32, 10, 48, 45, 57, 44, 115, 97].toArray) (by omega) (by omega) (by omega) ⟨by decide, by decide⟩
    rw [k1, Option.bind_some]
    exact ⟨_, rfl, t', q', rfl, by omega, by omega, by omega⟩) (toB (l.flatMap slotB), q1 + 1) ⟨_, _, rfl, by omega, by omega, .inl ⟨rfl, by rw [toB_size]; omega⟩⟩
  rw [g1, Option.bind_some, fin_brk]
  exact ⟨_, _, rfl⟩
theorem SlotTexts_true (L : List Int) : m_gleelaw2_SlotTexts L = some true := by
  unfold m_gleelaw2_SlotTexts
  obtain ⟨l, q1, h4, h5, h6, h7⟩ := Slots_spec L (p := 0) 4 (by omega) (by omega) (by omega)
  rw [show ((4 : Int)) = ((4 : Nat) : Int) from rfl, h4, Option.bind_some]
  simp only
  obtain ⟨t, q2, h8⟩ := SlotText_spec L (q := q1) (by omega) (by omega)
  rw [h8, Option.bind_some]
  simp only
  rw [Read_spec, SlotsRead_spec]
  have hb : ∀ a : ByteArray, (a.toList == a.toList) = true := fun a => by simp
  obtain ⟨s1, s2, s3⟩ := slots_spec l
  by_cases h0 : slotsF l = 0
  · rw [Text_spec h0 (by omega), s2, h0, Option.bind_some, Option.bind_some, SlotLines_spec (fun x hx => ((s3 h0).2 x hx).sz) (by omega)]
    simp only [beq_self_eq_true, ifB_true, Option.bind_some, fin_inl, hb, EqualSl, rehearsed_true]
  · have ht : m_rehearse_Text l = some (ByteArray.empty, slotsF l) := by
      unfold m_rehearse_Text
      rw [s1, Option.bind_some, show (slotsF l != 0) = true by simpa using h0, ifB_true]
    rw [ht, s2, Option.bind_some, Option.bind_some, show (slotsF l == 0) = false by simpa using h0, ifB_false]
    simp only [beq_self_eq_true, ifB_true, Option.bind_some, fin_inl, hb, EqualSl, rehearsed_true]
end Go.G
