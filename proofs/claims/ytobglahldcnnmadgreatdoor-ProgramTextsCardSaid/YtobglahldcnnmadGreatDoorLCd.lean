/- LCd (of LC4, without the reckoning of times): the drawn programs; the law of the timed concerts, in plain Lean. No program in sight. -/
import Derived.Test.YtobglahldcnnmadGreatDoorLC2
namespace Go.G
open Go Go.J
/-! ### changes of places -/
theorem Some_spec (L : List Int) {p : Int} (xs : List ByteArray) (hp : 0 ≤ p) (hp' : p ≤ 1000000000) (hx : xs.length ≠ 0) (hx' : (xs.length : Int) ≤ 4611686018427387904) :
    ∃ v, m_gleemake_Stream_Some L p xs = some (v, p + 1) ∧ v ∈ xs := by
  obtain ⟨r, h, h2, h3⟩ := Next_spec L (n := xs.length) hp hp' hx'
  have h3 := h3 (by omega)
  have h4 : r.toNat < xs.length := by omega
  refine ⟨xs[r.toNat], ?_, List.getElem_mem h4⟩
  unfold m_gleemake_Stream_Some
  rw [h]
  show (getI xs r).bind _ = _
  rw [getI_of (n := r.toNat) (by omega) (List.getElem?_eq_getElem h4)]; rfl
theorem Odd_spec (L : List Int) {p a b : Int} (hp : 0 ≤ p) (hp' : p ≤ 999999000) (ha : -1000000000 ≤ a) (hab : a ≤ b) (hb : b ≤ 1000000000) :
    ∃ v q, m_gleemake_Stream_Odd L p a b = some (v, q) ∧ p ≤ q ∧ q ≤ p + 2 ∧ (v ∈ [a - 1, b + 1, -1099511627776, 1099511627776] ∨ a ≤ v ∧ v ≤ b) := by
  unfold m_gleemake_Stream_Odd
  obtain ⟨f, hf⟩ := Flip_spec L (n := 12) hp (by omega) (by omega)
  rw [hf, Option.bind_some]
  cases f with
  | true =>
    rw [w64_id (n := a - 1) (by omega), w64_id (n := b + 1) (by omega)]
    obtain ⟨v, h1, h2⟩ := Pick_spec L (p := p + 1) [a - 1, b + 1, a, b, -1099511627776, 1099511627776] (by omega) (by omega) (by simp) (by simp)
    rw [ifB_true, h1, Option.bind_some]
    refine ⟨v, p + 2, by simp [Int.add_assoc], by omega, by omega, ?_⟩
    simp only [List.mem_cons, List.mem_nil_iff, or_false] at h2 ⊢
    omega
  | false =>
    obtain ⟨v, h1, h2, h3⟩ := Range_spec L (p := p + 1) (a := a) (b := b) (by omega) (by omega) (by omega) hab (by omega)
    rw [ifB_false, h1, Option.bind_some]
    exact ⟨v, p + 2, by simp [Int.add_assoc], by omega, by omega, .inr ⟨h2, h3⟩⟩
/-- the names of parts that are drawn -/
def voices : List ByteArray := [(ByteArray.mk [97, 108, 116, 111].toArray), (ByteArray.mk [98, 97, 115, 115].toArray), (ByteArray.mk [115, 111, 108, 105].toArray), (ByteArray.mk [122, 122].toArray), ByteArray.empty]
/-- the names that programs are drawn of -/
theorem RightProgram_spec2 (L : List Int) {q most : Int} (hq : 0 ≤ q) (hq' : q ≤ 999990000) (hm : 0 ≤ most) (hm' : most ≤ 5) :
    ∃ p q', m_gleemake_Stream_RightProgram L q most = some (p, q') ∧ q ≤ q' ∧ q' ≤ q + 50 ∧ (p.Items.length : Int) ≤ most ∧ ∀ x ∈ p.Items, x.Parts.length ≤ 3 ∧ ∀ z ∈ x.Parts, z ∈ voices := by
  unfold m_gleemake_Stream_RightProgram
  obtain ⟨c1, h1, -⟩ := Pick_spec L (p := q) [0, 30, 50] hq (by omega) (by simp) (by simp)
  obtain ⟨c2, h2, -⟩ := Pick_spec L (p := q + 1) [0, 10, 30] (by omega) (by omega) (by simp) (by simp)
  obtain ⟨c3, h3, -⟩ := Pick_spec L (p := q + 1 + 1) [0, 100] (by omega) (by omega) (by simp) (by simp)
  rw [h1, Option.bind_some, h2, Option.bind_some, h3, Option.bind_some]
  obtain ⟨mn, rfl⟩ := Int.eq_ofNat_of_zero_le hm
  rw [sliceI_of (lo := 0) (a := 0) (b := mn) rfl rfl (by omega) (by simp; omega), Option.bind_some]
  simp only [Nat.sub_zero, List.drop_zero]
  obtain ⟨⟨u, its⟩, hs, ha, hb, hlen, hparts⟩ := rangeM_invx (m_gleemake_Stream_RightProgram_l1 L) (List.take mn [(ByteArray.mk [99].toArray), (ByteArray.mk [97].toArray), (ByteArray.mk [100].toArray), (ByteArray.mk [98].toArray), (ByteArray.mk [101].toArray)])
    (fun i s => q + 3 ≤ s.1 ∧ s.1 ≤ q + 3 + 6 * i ∧ s.2.length ≤ i ∧ (∀ x ∈ s.2, x.Parts.length ≤ 3 ∧ ∀ z ∈ x.Parts, z ∈ voices)) (by
    rintro i x ⟨u, its⟩ hx ⟨ha, hb, hlen, hparts⟩
    have hi : i < mn := by
      have := (List.getElem?_eq_some_iff.1 hx).1
      simp at this; omega
    simp only at ha hb hlen hparts
    unfold m_gleemake_Stream_RightProgram_l1
    obtain ⟨f, hf⟩ := Flip_spec L (p := u) (n := 6) (by omega) (by omega) (by omega)
    simp only
    rw [hf, Option.bind_some]
    cases f with
    | true => exact ⟨_, rfl, by simp only; omega, by simp only; omega, by simp only; omega, hparts⟩
    | false =>
      obtain ⟨pl, h1, -⟩ := Some_spec L (p := u + 1) [(ByteArray.mk [114, 111, 119, 115].toArray), (ByteArray.mk [114, 111, 119, 115].toArray), (ByteArray.mk [99, 105, 114, 99, 108, 101].toArray)] (by omega) (by omega) (by simp) (by simp)
      obtain ⟨lg, h2, -⟩ := Pick_spec L (p := u + 1 + 1) [50, 100, 100, 200] (by omega) (by omega) (by simp) (by simp)
      rw [ifB_false, h1, Option.bind_some, h2, Option.bind_some]
      obtain ⟨⟨u2, ps⟩, h3, h4, h5, h5v⟩ := rangeM_invx (m_gleemake_Stream_RightProgram_l2 L) [(ByteArray.mk [97, 108, 116, 111].toArray), (ByteArray.mk [98, 97, 115, 115].toArray), (ByteArray.mk [115, 111, 108, 105].toArray)]
        (fun i s => s.1 = u + 3 + i ∧ s.2.length ≤ i ∧ ∀ z ∈ s.2, z ∈ voices) (by
        rintro i x ⟨u2, ps⟩ hx ⟨h4, h5, h5v⟩
        have hi := (List.getElem?_eq_some_iff.1 hx).1
        simp only [List.length_cons, List.length_nil] at hi
        simp only at h4 h5 h5v
        have hxv : x ∈ voices := by
          have := List.mem_of_getElem? hx
          simp only [List.mem_cons, List.not_mem_nil, or_false] at this
          rcases this with rfl | rfl | rfl <;> simp [voices]
        unfold m_gleemake_Stream_RightProgram_l2
        obtain ⟨f, hf⟩ := Flip_spec L (p := u2) (n := 2) (by omega) (by omega) (by omega)
        simp only
        rw [hf, Option.bind_some]
        cases f with
        | true =>
          rw [ifB_true, appM_of (by simp; omega) (by omega), Option.bind_some]
          exact ⟨_, rfl, by simp only; omega, by simp; omega, fun z hz => by
            rcases List.mem_append.1 hz with h | h
            · exact h5v z h
            · rw [List.mem_singleton.1 h]; exact hxv⟩
        | false => exact ⟨_, rfl, by simp only; omega, by simp only; omega, h5v⟩) (u + 1 + 1 + 1, []) ⟨by simp only; omega, by simp, by simp⟩
      simp only [List.length_cons, List.length_nil] at h4 h5
      rw [h3, Option.bind_some, fin_brk]
      have hfin : ∀ qs : List ByteArray, qs.length ≤ 3 → (∀ z ∈ qs, z ∈ voices) → ∃ s', ((appM 64 its [(TItem.mk x pl lg qs)]).bind fun q47 => (some (Flow.nxt (u2, q47)) : Option (Flow (Int × (List TItem)) (TProgram × Int)))) = some (Flow.nxt s') ∧ q + 3 ≤ s'.1 ∧ s'.1 ≤ q + 3 + 6 * ((i + 1 : Nat) : Int) ∧ s'.2.length ≤ i + 1 ∧ ∀ x ∈ s'.2, x.Parts.length ≤ 3 ∧ ∀ z ∈ x.Parts, z ∈ voices := by
        intro qs hqs hqv
        rw [appM_of (by simp; omega) (by omega), Option.bind_some]
        refine ⟨_, rfl, by simp only; omega, by simp only; omega, by simp; omega, ?_⟩
        intro y hy
        rcases List.mem_append.1 hy with h | h
        · exact hparts y h
        · simp only [List.mem_singleton] at h; subst h; exact ⟨hqs, hqv⟩
      cases hz : ((ps.length : Int) == 0) with
      | true => exact hfin _ (by simp) (fun z hz => by rw [List.mem_singleton.1 hz]; simp [voices])
      | false => exact hfin _ (by omega) h5v) (q + 1 + 1 + 1, []) ⟨by simp only; omega, by simp only; omega, by simp, by simp⟩
  rw [hs, Option.bind_some, fin_brk]
  have hl0 : (List.take mn [(ByteArray.mk [99].toArray), (ByteArray.mk [97].toArray), (ByteArray.mk [100].toArray), (ByteArray.mk [98].toArray), (ByteArray.mk [101].toArray)]).length = mn := by simp; omega
  rw [hl0] at hb hlen
  simp only at ha hb hlen hparts ⊢
  by_cases hgt : (its.length : Int) > 1
  · rw [decide_eq_true hgt, ifB_true]
    obtain ⟨f, hf⟩ := Flip_spec L (p := u) (n := 2) (by omega) (by omega) (by omega)
    rw [hf, Option.bind_some, Option.bind_some, fin_inl]
    cases f with
    | true =>
      rw [w64_id (by omega)]
      obtain ⟨r, hr, -⟩ := Next_spec L (p := u + 1) (n := (its.length : Int) - 1) (by omega) (by omega) (by omega)
      rw [ifB_true, hr, Option.bind_some]
      exact ⟨_, _, rfl, by omega, by omega, by simp only; omega, hparts⟩
    | false => exact ⟨_, _, rfl, by simp only; omega, by simp only; omega, by simp only; omega, hparts⟩
  · rw [decide_eq_false hgt, ifB_false, Option.bind_some, fin_inl]
    exact ⟨_, _, rfl, by simp only; omega, by simp only; omega, by simp only; omega, hparts⟩
theorem RightProgram_spec (L : List Int) {q most : Int} (hq : 0 ≤ q) (hq' : q ≤ 999990000) (hm : 0 ≤ most) (hm' : most ≤ 5) :
    ∃ p q', m_gleemake_Stream_RightProgram L q most = some (p, q') ∧ q ≤ q' ∧ q' ≤ q + 50 ∧ (p.Items.length : Int) ≤ most ∧ ∀ x ∈ p.Items, x.Parts.length ≤ 3 := by
  obtain ⟨p, q', h1, h2, h3, h4, h5⟩ := RightProgram_spec2 L hq hq' hm hm'
  exact ⟨p, q', h1, h2, h3, h4, fun x hx => (h5 x hx).1⟩
theorem AProgram_spec2 (L : List Int) {q most : Int} (hq : 0 ≤ q) (hq' : q ≤ 999980000) (hm : 0 ≤ most) (hm' : most ≤ 5) :
    ∃ p q', m_gleemake_Stream_AProgram L q most = some (p, q') ∧ q ≤ q' ∧ q' ≤ q + 100 ∧ (p.Items.length : Int) ≤ most ∧ ∀ x ∈ p.Items, ∀ z ∈ x.Parts, z ∈ voices := by
  unfold m_gleemake_Stream_AProgram
  obtain ⟨p, q1, h1, h2, h3, h4, h5⟩ := RightProgram_spec2 L hq (by omega) hm hm'
  obtain ⟨f, hf⟩ := Flip_spec L (p := q1) (n := 12) (by omega) (by omega) (by omega)
  rw [h1, Option.bind_some, hf, Option.bind_some]
  cases f with
  | false => exact ⟨p, q1 + 1, rfl, by omega, by omega, h4, fun x hx => (h5 x hx).2⟩
  | true =>
    obtain ⟨r, hr, -⟩ := Next_spec L (p := q1 + 1) (n := 3) (by omega) (by omega) (by omega)
    rw [ifB_true, hr, Option.bind_some]
    cases hr0 : (r == 0) with
    | true =>
      obtain ⟨v, q2, hv, h6, h7, -⟩ := Odd_spec L (p := q1 + 1 + 1) (a := -1) (b := 4) (by omega) (by omega) (by omega) (by omega) (by omega)
      rw [ifB_true, hv, Option.bind_some]
      exact ⟨_, _, rfl, by simp only; omega, by simp only; omega, h4, fun x hx => (h5 x hx).2⟩
    | false =>
      rw [ifB_false]
      cases hr1 : (r == 1) with
      | true =>
        obtain ⟨v1, q2, hv1, h6, h7, -⟩ := Odd_spec L (p := q1 + 1 + 1) (a := 0) (b := 86400000) (by omega) (by omega) (by omega) (by omega) (by omega)
        obtain ⟨v2, q3, hv2, h8, h9, -⟩ := Odd_spec L (p := q2) (a := 0) (b := 86400000) (by omega) (by omega) (by omega) (by omega) (by omega)
        obtain ⟨v3, q4, hv3, h10, h11, -⟩ := Odd_spec L (p := q3) (a := 0) (b := 86400000) (by omega) (by omega) (by omega) (by omega) (by omega)
        rw [ifB_true, hv1, Option.bind_some, hv2, Option.bind_some, hv3, Option.bind_some]
        exact ⟨_, _, rfl, by simp only; omega, by simp only; omega, h4, fun x hx => (h5 x hx).2⟩
      | false =>
        rw [ifB_false]
        by_cases hgt : (p.Items.length : Int) > 0
        · obtain ⟨i, hi, hi0, hi1⟩ := Next_spec L (p := q1 + 1 + 1) (n := p.Items.length) (by omega) (by omega) (by omega)
          have hi1 := hi1 (by omega)
          have hit : i.toNat < p.Items.length := by omega
          rw [decide_eq_true hgt, ifB_true, hi, Option.bind_some, getI_of (n := i.toNat) (by omega) (List.getElem?_eq_getElem hit), Option.bind_some]
          obtain ⟨k, hk, -⟩ := Some_spec L (p := q1 + 1 + 1 + 1) [p.Items[i.toNat].Key, ByteArray.empty, (ByteArray.mk [97].toArray)] (by omega) (by omega) (by simp) (by simp)
          obtain ⟨v, q2, hv, h6, h7, -⟩ := Odd_spec L (p := q1 + 1 + 1 + 1 + 1) (a := 1) (b := 86400000) (by omega) (by omega) (by omega) (by omega) (by omega)
          have hps := (h5 _ (List.getElem_mem hit)).1
          obtain ⟨z, hz, hzm⟩ := Some_spec L (p := q2) [(ByteArray.mk [122, 122].toArray), ByteArray.empty, (ByteArray.mk [97, 108, 116, 111].toArray)] (by omega) (by omega) (by simp) (by simp)
          unfold m_slices_Clone_string_string
          rw [hk, Option.bind_some, hv, Option.bind_some, appM_of (by simp; omega) (by omega), Option.bind_some, Option.bind_some, hz, Option.bind_some, appM_of (by simp; omega) (by omega), Option.bind_some]
          exact ⟨_, _, rfl, by simp only; omega, by simp only; omega, by simp only [List.length_set]; exact h4, fun x hx => by
            rcases List.mem_or_eq_of_mem_set hx with h | rfl
            · rcases List.mem_or_eq_of_mem_set h with h | rfl
              · rcases List.mem_or_eq_of_mem_set h with h | rfl
                · exact (h5 x h).2
                · exact (h5 _ (List.getElem_mem hit)).2
              · exact (h5 _ (List.getElem_mem hit)).2
            · intro y hy
              rcases List.mem_append.1 hy with h | h
              · exact (h5 _ (List.getElem_mem hit)).2 y (by simpa using h)
              · rw [List.mem_singleton.1 h]
                simp only [List.mem_cons, List.not_mem_nil, or_false] at hzm
                rcases hzm with rfl | rfl | rfl <;> simp [voices]⟩
        · rw [decide_eq_false hgt, ifB_false]
          exact ⟨_, _, rfl, by simp only; omega, by simp only; omega, h4, fun x hx => (h5 x hx).2⟩
theorem AProgram_spec (L : List Int) {q most : Int} (hq : 0 ≤ q) (hq' : q ≤ 999980000) (hm : 0 ≤ most) (hm' : most ≤ 5) :
    ∃ p q', m_gleemake_Stream_AProgram L q most = some (p, q') ∧ q ≤ q' ∧ q' ≤ q + 100 ∧ (p.Items.length : Int) ≤ most := by
  obtain ⟨p, q', h1, h2, h3, h4, -⟩ := AProgram_spec2 L hq hq' hm hm'
  exact ⟨p, q', h1, h2, h3, h4⟩
end Go.G
