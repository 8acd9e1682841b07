/- LCz: how long the names of programs are: of those that are drawn, of those without a fault. In plain Lean, no program in sight. -/
import Derived.Test.YtobglahldcnnmadGreatDoorLCd
namespace Go.G
open Go Go.J
set_option linter.unusedSimpArgs false
set_option linter.unusedVariables false
/-- the names that programs are drawn of -/
theorem RightProgram_sz (L : List Int) {q most : Int} (hq : 0 ≤ q) (hq' : q ≤ 999990000) (hm : 0 ≤ most) (hm' : most ≤ 5) :
    ∃ p q', m_gleemake_Stream_RightProgram L q most = some (p, q') ∧ q ≤ q' ∧ q' ≤ q + 50 ∧ (p.Items.length : Int) ≤ most ∧ (∀ n ∈ [p.Change, p.Clap, p.Break, p.Half], -1 ≤ n ∧ n ≤ 1000) ∧ ∀ x ∈ p.Items, (x.Key.size ≤ 40 ∧ x.Places.size ≤ 40 ∧ 0 ≤ x.Long ∧ x.Long ≤ 1000) ∧ x.Parts.length ≤ 3 ∧ ∀ z ∈ x.Parts, z ∈ voices := by
  unfold m_gleemake_Stream_RightProgram
  obtain ⟨c1, h1, m1⟩ := Pick_spec L (p := q) [0, 30, 50] hq (by omega) (by simp) (by simp)
  obtain ⟨c2, h2, m2⟩ := Pick_spec L (p := q + 1) [0, 10, 30] (by omega) (by omega) (by simp) (by simp)
  obtain ⟨c3, h3, m3⟩ := Pick_spec L (p := q + 1 + 1) [0, 100] (by omega) (by omega) (by simp) (by simp)
  simp only [List.mem_cons, List.not_mem_nil, or_false] at m1 m2 m3
  have hnum : ∀ h : Int, -1 ≤ h → h ≤ 1000 → ∀ n ∈ [c1, c2, c3, h], -1 ≤ n ∧ n ≤ 1000 := fun h ha hb n hn => by
    simp only [List.mem_cons, List.not_mem_nil, or_false] at hn
    omega
  rw [h1, Option.bind_some, h2, Option.bind_some, h3, Option.bind_some]
  obtain ⟨mn, rfl⟩ := Int.eq_ofNat_of_zero_le hm
  rw [sliceI_of (lo := 0) (a := 0) (b := mn) rfl rfl (by omega) (by simp; omega), Option.bind_some]
  simp only [Nat.sub_zero, List.drop_zero]
  obtain ⟨⟨u, its⟩, hs, ha, hb, hlen, hparts⟩ := rangeM_invx (m_gleemake_Stream_RightProgram_l1 L) (List.take mn [(ByteArray.mk [99].toArray), (ByteArray.mk [97].toArray), (ByteArray.mk [100].toArray), (ByteArray.mk [98].toArray), (ByteArray.mk [101].toArray)])
    (fun i s => q + 3 ≤ s.1 ∧ s.1 ≤ q + 3 + 6 * i ∧ s.2.length ≤ i ∧ (∀ x ∈ s.2, (x.Key.size ≤ 40 ∧ x.Places.size ≤ 40 ∧ 0 ≤ x.Long ∧ x.Long ≤ 1000) ∧ x.Parts.length ≤ 3 ∧ ∀ z ∈ x.Parts, z ∈ voices)) (by
    rintro i x ⟨u, its⟩ hx ⟨ha, hb, hlen, hparts⟩
    have hi : i < mn := by
      have := (List.getElem?_eq_some_iff.1 hx).1
      simp at this; omega
    simp only at ha hb hlen hparts
    unfold m_gleemake_Stream_RightProgram_l1
    obtain ⟨f, hf⟩ := Flip_spec L (p := u) (n := 6) (by omega) (by omega) (by omega)
    simp only
    rw [hf, Option.bind_some]
    cases f with
    | true => exact ⟨_, rfl, by simp only; omega, by simp only; omega, by simp only; omega, hparts⟩
    | false =>
      obtain ⟨pl, h1, hplm⟩ := Some_spec L (p := u + 1) [(ByteArray.mk [114, 111, 119, 115].toArray), (ByteArray.mk [114, 111, 119, 115].toArray), (ByteArray.mk [99, 105, 114, 99, 108, 101].toArray)] (by omega) (by omega) (by simp) (by simp)
      obtain ⟨lg, h2, hlgm⟩ := Pick_spec L (p := u + 1 + 1) [50, 100, 100, 200] (by omega) (by omega) (by simp) (by simp)
      have hpl : pl.size ≤ 40 := by
        simp only [List.mem_cons, List.not_mem_nil, or_false] at hplm
        rcases hplm with rfl | rfl | rfl <;> decide
      have hlg : 0 ≤ lg ∧ lg ≤ 1000 := by
        simp only [List.mem_cons, List.not_mem_nil, or_false] at hlgm
        omega
      have hxk : x.size ≤ 40 := by
        have := List.take_subset _ _ (List.mem_of_getElem? hx)
        simp only [List.mem_cons, List.not_mem_nil, or_false] at this
        rcases this with rfl | rfl | rfl | rfl | rfl <;> decide
      rw [ifB_false, h1, Option.bind_some, h2, Option.bind_some]
      obtain ⟨⟨u2, ps⟩, h3, h4, h5, h5v⟩ := rangeM_invx (m_gleemake_Stream_RightProgram_l2 L) [(ByteArray.mk [97, 108, 116, 111].toArray), (ByteArray.mk [98, 97, 115, 115].toArray), (ByteArray.mk [115, 111, 108, 105].toArray)]
        (fun i s => s.1 = u + 3 + i ∧ s.2.length ≤ i ∧ ∀ z ∈ s.2, z ∈ voices) (by
        rintro i x ⟨u2, ps⟩ hx ⟨h4, h5, h5v⟩
        have hi := (List.getElem?_eq_some_iff.1 hx).1
        simp only [List.length_cons, List.length_nil] at hi
        simp only at h4 h5 h5v
        have hxv : x ∈ voices := by
          have := List.mem_of_getElem? hx
          simp only [List.mem_cons, List.not_mem_nil, or_false] at this
          rcases this with rfl | rfl | rfl <;> simp [voices]
        unfold m_gleemake_Stream_RightProgram_l2
        obtain ⟨f, hf⟩ := Flip_spec L (p := u2) (n := 2) (by omega) (by omega) (by omega)
        simp only
        rw [hf, Option.bind_some]
        cases f with
        | true =>
          rw [ifB_true, appM_of (by simp; omega) (by omega), Option.bind_some]
          exact ⟨_, rfl, by simp only; omega, by simp; omega, fun z hz => by
            rcases List.mem_append.1 hz with h | h
            · exact h5v z h
            · rw [List.mem_singleton.1 h]; exact hxv⟩
        | false => exact ⟨_, rfl, by simp only; omega, by simp only; omega, h5v⟩) (u + 1 + 1 + 1, []) ⟨by simp only; omega, by simp, by simp⟩
      simp only [List.length_cons, List.length_nil] at h4 h5
      rw [h3, Option.bind_some, fin_brk]
      have hfin : ∀ qs : List ByteArray, qs.length ≤ 3 → (∀ z ∈ qs, z ∈ voices) → ∃ s', ((appM 64 its [(TItem.mk x pl lg qs)]).bind fun q47 => (some (Flow.nxt (u2, q47)) : Option (Flow (Int × (List TItem)) (TProgram × Int)))) = some (Flow.nxt s') ∧ q + 3 ≤ s'.1 ∧ s'.1 ≤ q + 3 + 6 * ((i + 1 : Nat) : Int) ∧ s'.2.length ≤ i + 1 ∧ ∀ x ∈ s'.2, (x.Key.size ≤ 40 ∧ x.Places.size ≤ 40 ∧ 0 ≤ x.Long ∧ x.Long ≤ 1000) ∧ x.Parts.length ≤ 3 ∧ ∀ z ∈ x.Parts, z ∈ voices := by
        intro qs hqs hqv
        rw [appM_of (by simp; omega) (by omega), Option.bind_some]
        refine ⟨_, rfl, by simp only; omega, by simp only; omega, by simp; omega, ?_⟩
        intro y hy
        rcases List.mem_append.1 hy with h | h
        · exact hparts y h
        · simp only [List.mem_singleton] at h; subst h; exact ⟨⟨hxk, hpl, hlg⟩, hqs, hqv⟩
      cases hz : ((ps.length : Int) == 0) with
      | true => exact hfin _ (by simp) (fun z hz => by rw [List.mem_singleton.1 hz]; simp [voices])
      | false => exact hfin _ (by omega) h5v) (q + 1 + 1 + 1, []) ⟨by simp only; omega, by simp only; omega, by simp, by simp⟩
  rw [hs, Option.bind_some, fin_brk]
  have hl0 : (List.take mn [(ByteArray.mk [99].toArray), (ByteArray.mk [97].toArray), (ByteArray.mk [100].toArray), (ByteArray.mk [98].toArray), (ByteArray.mk [101].toArray)]).length = mn := by simp; omega
  rw [hl0] at hb hlen
  simp only at ha hb hlen hparts ⊢
  by_cases hgt : (its.length : Int) > 1
  · rw [decide_eq_true hgt, ifB_true]
    obtain ⟨f, hf⟩ := Flip_spec L (p := u) (n := 2) (by omega) (by omega) (by omega)
    rw [hf, Option.bind_some, Option.bind_some, fin_inl]
    cases f with
    | true =>
      rw [w64_id (by omega)]
      obtain ⟨r, hr, hr0, hr1⟩ := Next_spec L (p := u + 1) (n := (its.length : Int) - 1) (by omega) (by omega) (by omega)
      have hr1 := hr1 (by omega)
      rw [ifB_true, hr, Option.bind_some]
      exact ⟨_, _, rfl, by omega, by omega, by simp only; omega, hnum r (by omega) (by omega), hparts⟩
    | false => exact ⟨_, _, rfl, by simp only; omega, by simp only; omega, by simp only; omega, hnum (-1) (by omega) (by omega), hparts⟩
  · rw [decide_eq_false hgt, ifB_false, Option.bind_some, fin_inl]
    exact ⟨_, _, rfl, by simp only; omega, by simp only; omega, by simp only; omega, hnum (-1) (by omega) (by omega), hparts⟩

structure ItemSz (x : TItem) : Prop where
  key : x.Key.size ≤ 40
  pla : x.Places.size ≤ 40
  len : x.Parts.length ≤ 12
  par : ∀ z ∈ x.Parts, z.size ≤ 40
theorem isKey_size {s : ByteArray} (h : isKey s = true) : s.size ≤ 40 := by
  unfold isKey at h
  simp only [Bool.and_eq_true, decide_eq_true_eq] at h
  exact h.1.1.2
theorem Rising_keys (l : List ByteArray) (hl : l.length ≤ 12) (h : m_gleeref2_Rising l = some 0) : ∀ z ∈ l, z.size ≤ 40 := by
  unfold m_gleeref2_Rising at h
  obtain ⟨f, h1, hq⟩ := rangeM_post (m_gleeref2_Rising_l1 l) l (fun n _ => ∀ (i : Nat) z, i < n → l[i]? = some z → z.size ≤ 40) (fun f => match f with | .nxt _ => False | .brk _ => ∀ z ∈ l, z.size ≤ 40 | .ret e => e ≠ 0) (by
    intro i x s hx hI
    unfold m_gleeref2_Rising_l1
    rw [isKey_ref, Option.bind_some]
    cases hk : isKey x with
    | false => exact ⟨.ret 5, rfl, by simp, by simp, by simp⟩
    | true =>
      obtain ⟨b, hb⟩ := strLess_total l i x hx hl
      rw [Bool.not_true, ifB_false, hb]
      cases b with
      | true => exact ⟨.ret 7, rfl, by simp, by simp, by simp⟩
      | false =>
        refine ⟨.nxt (), rfl, fun s' _ j z hj hz => ?_, by simp, by simp⟩
        by_cases hji : j < i
        · exact hI j z hji hz
        · have : j = i := by omega
          subst this
          rw [hx] at hz; cases hz
          exact isKey_size hk) (fun s hI z hz => by
      obtain ⟨i, hi, he⟩ := List.getElem_of_mem hz
      exact hI i z hi (by rw [List.getElem?_eq_getElem hi, he])) () (fun i z hi => by omega)
  rw [h1, Option.bind_some] at h
  cases f with
  | nxt s => exact hq.elim
  | brk s => exact hq
  | ret e => exact absurd (Option.some.inj h) hq
theorem ItemsFault_sz (a : List TItem) (h : m_gleeref2_ItemsFault a = some 0) : ∀ x ∈ a, ItemSz x := by
  unfold m_gleeref2_ItemsFault at h
  by_cases hl : (a.length : Int) > 60
  · rw [decide_eq_true hl] at h; simp at h
  rw [decide_eq_false hl, ifB_false] at h
  obtain ⟨f, h1, hq⟩ := rangeM_post (m_gleeref2_ItemsFault_l1 a) a (fun n _ => ∀ (i : Nat) x, i < n → a[i]? = some x → ItemSz x)
    (fun f => match f with | .nxt _ => False | .brk _ => ∀ (i : Nat) x, a[i]? = some x → ItemSz x | .ret e => e ≠ 0) (by
    intro i x s hx hI
    have hi := (List.getElem?_eq_some_iff.1 hx).1
    unfold m_gleeref2_ItemsFault_l1
    rw [isKey_ref, isKey_ref, Option.bind_some, Option.bind_some]
    cases hk1 : isKey x.Key with
    | false => exact ⟨.ret 5, rfl, by simp, by simp, by simp⟩
    | true =>
    rw [Bool.not_true, ifB_false, Option.bind_some, fin_inl]
    cases hk2 : isKey x.Places with
    | false => exact ⟨.ret 5, rfl, by simp, by simp, by simp⟩
    | true =>
      rw [Bool.not_true, ifB_false, sliceI_of (lo := 0) (hi := (i : Int)) (a := 0) (b := i) rfl rfl (by omega) (by omega), Option.bind_some]
      unfold m_gleeref2_ItemAt
      obtain ⟨n, hn, -⟩ := IndexFunc_spec (List.take (i - 0) (List.drop 0 a)) x.Key
      rw [hn, Option.bind_some, Option.bind_some]
      by_cases h0 : n ≥ 0
      · rw [decide_eq_true h0]; exact ⟨.ret 6, rfl, by simp, by simp, by simp⟩
      rw [decide_eq_false h0, ifB_false, in_spec, Option.bind_some]
      by_cases h1 : 1 ≤ x.Long ∧ x.Long ≤ 86400000
      · rw [decide_eq_true h1, Bool.not_true, ifB_false]
        cases h2 : ((x.Parts.length : Int) == 0) with
        | true => exact ⟨.ret 8, rfl, by simp, by simp, by simp⟩
        | false =>
          rw [ifB_false]
          by_cases h3 : (x.Parts.length : Int) > 12
          · rw [decide_eq_true h3]; exact ⟨.ret 2, rfl, by simp, by simp, by simp⟩
          rw [decide_eq_false h3, ifB_false]
          obtain ⟨e, he⟩ := Rising_total x.Parts (by omega)
          rw [he, Option.bind_some]
          by_cases h4 : e = 0
          · subst h4
            refine ⟨.nxt (), rfl, fun s' _ j y hj hy => ?_, by simp, by simp⟩
            by_cases h5 : j < i
            · exact hI j y h5 hy
            · have : j = i := by omega
              subst this
              rw [hx] at hy
              cases hy
              exact ⟨isKey_size hk1, isKey_size hk2, by omega, Rising_keys x.Parts (by omega) he⟩
          · have : (e != 0) = true := by simpa using h4
            rw [this]
            exact ⟨.ret e, rfl, by simp, by simp, fun v hv => by cases hv; exact h4⟩
      · rw [decide_eq_false h1]; exact ⟨.ret 1, rfl, by simp, by simp, by simp⟩)
    (fun s hI i x hx => hI i x (List.getElem?_eq_some_iff.1 hx).1 hx) () (fun i x hi => by omega)
  rw [h1, Option.bind_some] at h
  cases f with
  | nxt s => exact hq.elim
  | brk s =>
    intro x hx
    obtain ⟨i, hi, he⟩ := List.getElem_of_mem hx
    exact hq i x (by rw [List.getElem?_eq_getElem hi, he])
  | ret e => exact absurd (Option.some.inj h) hq
theorem ProgramFault_items {p : TProgram} (h : m_gleeref2_ProgramFault p = some 0) : m_gleeref2_ItemsFault p.Items = some 0 := by
  unfold m_gleeref2_ProgramFault at h
  obtain ⟨e, he, -⟩ := ItemsFault_total p.Items
  rw [he, Option.bind_some] at h
  by_cases h0 : e = 0
  · rw [he, h0]
  · rw [show (e != 0) = true by simpa using h0, ifB_true] at h
    exact absurd (Option.some.inj h) h0
theorem voices_size : ∀ z ∈ voices, z.size ≤ 40 := by
  intro z hz
  unfold voices at hz
  simp only [List.mem_cons, List.not_mem_nil, or_false] at hz
  rcases hz with rfl | rfl | rfl | rfl | rfl <;> decide
end Go.G
