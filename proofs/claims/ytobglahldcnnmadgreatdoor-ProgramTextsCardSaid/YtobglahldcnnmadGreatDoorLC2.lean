/- LC2: the faults of programs are one, and what a program without a fault is, in plain Lean. No program in sight. -/
import Derived.Test.YtobglahldcnnmadGreatDoorLC1
namespace Go.G
open Go Go.J
theorem bind_ret {α : Type} (o : Option α) : (o.bind fun x => some x) = o := by cases o <;> rfl
theorem ifB_not {α : Sort _} (b : Bool) (x y : α) : ifB (!b) x y = ifB b y x := by cases b <;> rfl
theorem IndexFunc_eq (q : List TItem) (a b : ByteArray) (c : Int) (d : List ByteArray) : m_slices_IndexFunc_api_Item_api_Item__concert_CheckItems_1 q a b c d = m_slices_IndexFunc_api_Item_api_Item__gleeref2_ItemAt_1 q a := rfl
theorem Rising_eq (l : List ByteArray) : m_concert_partsFault l = ifB ((l.length : Int) == 0) (some 8) (ifB (decide ((l.length : Int) > 12)) (some 2) (m_gleeref2_Rising l)) := by
  unfold m_concert_partsFault m_gleeref2_Rising
  have : m_concert_partsFault_l1 l = m_gleeref2_Rising_l1 l := by
    funext i x u
    unfold m_concert_partsFault_l1 m_gleeref2_Rising_l1
    rw [IsKey_eq]
  rw [this]
theorem ItemsFault_l1_eq (a : List TItem) : m_concert_CheckItems_l1 a = m_gleeref2_ItemsFault_l1 a := by
  funext i x u
  unfold m_concert_CheckItems_l1 m_gleeref2_ItemsFault_l1
  rw [IsKey_eq]
  congr 1
  funext k
  congr 1
  funext u9
  congr 1
  congr 1
  funext q
  unfold m_slices_ContainsFunc_api_Item_api_Item__concert_CheckItems_1 m_gleeref2_ItemAt
  rw [IndexFunc_eq, bind_ret, Option.bind_assoc]
  congr 1
  funext y
  rw [Option.bind_some]
  congr 1
  rw [Outside_spec, in_spec, Option.bind_some, Option.bind_some]
  congr 1
  rw [Rising_eq]
  cases h1 : ((x.Parts.length : Int) == 0)
  · simp only [ifB_false]
    cases h2 : decide ((x.Parts.length : Int) > 12)
    · simp only [ifB_false]
    · simp only [ifB_true]; rfl
  · simp only [ifB_true]; rfl
theorem CheckItems_eq : m_concert_CheckItems = m_gleeref2_ItemsFault := by
  funext a
  unfold m_concert_CheckItems m_gleeref2_ItemsFault
  rw [ItemsFault_l1_eq]
theorem CheckProgram_eq : m_concert_CheckProgram = m_gleeref2_ProgramFault := by
  funext a
  unfold m_concert_CheckProgram m_gleeref2_ProgramFault
  rw [CheckItems_eq]
  simp only [Outside_spec, in_spec, Option.bind_some]
/-! ### what no fault means -/
theorem strLess_total (l : List ByteArray) (i : Nat) (x : ByteArray) (h : l[i]? = some x) (hl : l.length ≤ 12) :
    ∃ b, ((ifB (decide ((i : Int) > 0)) ((getI l (w64 ((i : Int) - 1))).bind fun e12 => some (.inl (Op.bytesLess x.toList e12.toList || x.toList == e12.toList))) (some (.inl false)) : Option (Bool ⊕ (Flow Unit Int)))) = some (.inl b) := by
  have hi := (List.getElem?_eq_some_iff.1 h).1
  by_cases h0 : (i : Int) > 0
  · rw [decide_eq_true h0, ifB_true, w64_id (by omega), getI_of (n := i - 1) (x := l[i - 1]) (by omega) (List.getElem?_eq_getElem (by omega))]
    exact ⟨_, rfl⟩
  · rw [decide_eq_false h0]
    exact ⟨_, rfl⟩
theorem rangeM_post {α σ ρ : Type} (step : Nat → α → σ → Option (Flow σ ρ)) (xs : List α) (I : Nat → σ → Prop) (Q : Flow σ ρ → Prop)
    (h : ∀ i x s, xs[i]? = some x → I i s → ∃ f, step i x s = some f ∧ (∀ s', f = .nxt s' → I (i + 1) s') ∧ (∀ s', f = .brk s' → Q (.brk s')) ∧ ∀ v, f = .ret v → Q (.ret v))
    (he : ∀ s, I xs.length s → Q (.brk s)) (s : σ) (h0 : I 0 s) : ∃ f, rangeM step 0 xs s = some f ∧ Q f := by
  have key : ∀ (t : List α) (i : Nat) (s : σ), xs.drop i = t → i + t.length = xs.length → I i s → ∃ f, rangeM step i t s = some f ∧ Q f := by
    intro t
    induction t with
    | nil => intro i s _ hl hs; exact ⟨.brk s, rfl, he s (by simpa using hl ▸ hs)⟩
    | cons x t ih =>
      intro i s hd hl hs
      have hx : xs[i]? = some x := by
        have : (xs.drop i)[0]? = some x := by rw [hd]; rfl
        simpa using this
      obtain ⟨f, h1, h2, h3, h4⟩ := h i x s hx hs
      have hd' : xs.drop (i + 1) = t := by rw [← List.drop_drop, hd]; rfl
      rw [rangeM_cons, h1]
      cases f with
      | nxt s' => exact ih (i + 1) s' hd' (by simp at hl; omega) (h2 s' rfl)
      | brk s' => exact ⟨_, rfl, h3 s' rfl⟩
      | ret v => exact ⟨_, rfl, h4 v rfl⟩
  exact key xs 0 s rfl (by simp) h0
theorem Rising_total (l : List ByteArray) (hl : l.length ≤ 12) : ∃ e, m_gleeref2_Rising l = some e := by
  unfold m_gleeref2_Rising
  obtain ⟨f, h, hq⟩ := rangeM_post (m_gleeref2_Rising_l1 l) l (fun _ _ => True) (fun f => ∀ s, f ≠ .nxt s) (by
    intro i x s hx _
    unfold m_gleeref2_Rising_l1
    rw [isKey_ref, Option.bind_some]
    cases isKey x with
    | false => exact ⟨.ret 5, rfl, by simp, by simp, by simp⟩
    | true =>
      obtain ⟨b, hb⟩ := strLess_total l i x hx hl
      rw [Bool.not_true, ifB_false, hb]
      cases b with
      | true => exact ⟨.ret 7, rfl, by simp, by simp, by simp⟩
      | false => exact ⟨.nxt (), rfl, by simp, by simp, by simp⟩) (by simp) () trivial
  rw [h, Option.bind_some]
  cases f with
  | nxt s => exact absurd rfl (hq s)
  | brk s => exact ⟨0, rfl⟩
  | ret v => exact ⟨v, rfl⟩
theorem IndexFunc_spec (q : List TItem) (k : ByteArray) : ∃ n, m_slices_IndexFunc_api_Item_api_Item__gleeref2_ItemAt_1 q k = some n ∧ -1 ≤ n ∧ n < q.length ∧ (∀ x, 0 ≤ n → q[n.toNat]? = some x → x.Key = k) := by
  unfold m_slices_IndexFunc_api_Item_api_Item__gleeref2_ItemAt_1
  obtain ⟨f, h, hq⟩ := rangeM_post (m_slices_IndexFunc_api_Item_api_Item__gleeref2_ItemAt_1_l1 k) q (fun _ _ => True)
    (fun f => match f with | .nxt _ => False | .brk _ => True | .ret n => 0 ≤ n ∧ n < q.length ∧ ∀ x, q[n.toNat]? = some x → x.Key = k) (by
    intro i x s hx _
    unfold m_slices_IndexFunc_api_Item_api_Item__gleeref2_ItemAt_1_l1 m_gleeref2_ItemAt_1
    rw [Option.bind_some]
    have hi := (List.getElem?_eq_some_iff.1 hx).1
    cases hb : (x.Key.toList == k.toList) with
    | false => exact ⟨.nxt (), rfl, by simp, by simp, by simp⟩
    | true =>
      refine ⟨.ret (i : Int), rfl, by simp, by simp, fun v hv => ?_⟩
      cases hv
      refine ⟨by omega, by omega, fun y hy => ?_⟩
      rw [Int.toNat_natCast, hx] at hy
      cases hy
      exact ba_toList_inj.1 (by simpa using hb)) (fun _ _ => trivial) () trivial
  rw [h, Option.bind_some]
  cases f with
  | nxt s => exact hq.elim
  | brk s => exact ⟨-1, rfl, by omega, by omega, fun x h => by omega⟩
  | ret v => exact ⟨v, rfl, by have := hq.1; omega, hq.2.1, fun x _ hx => hq.2.2 x hx⟩
/-- of the items of a program without a fault -/
structure ItemOK (x : TItem) : Prop where
  long1 : 1 ≤ x.Long
  long2 : x.Long ≤ 86400000
  parts : x.Parts.length ≤ 12
theorem ItemsFault_total (a : List TItem) : ∃ e, m_gleeref2_ItemsFault a = some e ∧ (e = 0 → a.length ≤ 60 ∧ ∀ (i : Nat) x, a[i]? = some x → ItemOK x) := by
  unfold m_gleeref2_ItemsFault
  by_cases hl : (a.length : Int) > 60
  · rw [decide_eq_true hl]; exact ⟨2, rfl, by simp⟩
  rw [decide_eq_false hl, ifB_false]
  obtain ⟨f, h, hq⟩ := rangeM_post (m_gleeref2_ItemsFault_l1 a) a (fun n _ => ∀ (i : Nat) x, i < n → a[i]? = some x → ItemOK x)
    (fun f => match f with | .nxt _ => False | .brk _ => ∀ (i : Nat) x, a[i]? = some x → ItemOK x | .ret e => e ≠ 0) (by
    intro i x s hx hI
    have hi := (List.getElem?_eq_some_iff.1 hx).1
    unfold m_gleeref2_ItemsFault_l1
    rw [isKey_ref, isKey_ref, Option.bind_some, Option.bind_some]
    have hk : ∃ b, ifB (!isKey x.Key) (some (.inl true)) (some (.inl (!isKey x.Places))) = (some (.inl b) : Option (Bool ⊕ (Flow Unit Int))) := by
      cases isKey x.Key
      · exact ⟨true, rfl⟩
      · exact ⟨_, rfl⟩
    obtain ⟨b, hb⟩ := hk
    rw [hb, Option.bind_some]
    cases b with
    | true => exact ⟨.ret 5, rfl, by simp, by simp, by simp⟩
    | false =>
      rw [fin_inl, ifB_false, sliceI_of (lo := 0) (hi := (i : Int)) (a := 0) (b := i) rfl rfl (by omega) (by omega), Option.bind_some]
      unfold m_gleeref2_ItemAt
      obtain ⟨n, hn, -⟩ := IndexFunc_spec (List.take (i - 0) (List.drop 0 a)) x.Key
      rw [hn, Option.bind_some, Option.bind_some]
      by_cases h0 : n ≥ 0
      · rw [decide_eq_true h0]; exact ⟨.ret 6, rfl, by simp, by simp, by simp⟩
      rw [decide_eq_false h0, ifB_false, in_spec, Option.bind_some]
      by_cases h1 : 1 ≤ x.Long ∧ x.Long ≤ 86400000
      · rw [decide_eq_true h1, Bool.not_true, ifB_false]
        cases h2 : ((x.Parts.length : Int) == 0) with
        | true => exact ⟨.ret 8, rfl, by simp, by simp, by simp⟩
        | false =>
          rw [ifB_false]
          by_cases h3 : (x.Parts.length : Int) > 12
          · rw [decide_eq_true h3]; exact ⟨.ret 2, rfl, by simp, by simp, by simp⟩
          rw [decide_eq_false h3, ifB_false]
          obtain ⟨e, he⟩ := Rising_total x.Parts (by omega)
          rw [he, Option.bind_some]
          by_cases h4 : e = 0
          · subst h4
            refine ⟨.nxt (), rfl, fun s' _ j y hj hy => ?_, by simp, by simp⟩
            by_cases h5 : j < i
            · exact hI j y h5 hy
            · have : j = i := by omega
              subst this
              rw [hx] at hy
              cases hy
              exact ⟨h1.1, h1.2, by omega⟩
          · have : (e != 0) = true := by simpa using h4
            rw [this]
            exact ⟨.ret e, rfl, by simp, by simp, fun v hv => by cases hv; exact h4⟩
      · rw [decide_eq_false h1]; exact ⟨.ret 1, rfl, by simp, by simp, by simp⟩)
    (fun s hI i x hx => hI i x (List.getElem?_eq_some_iff.1 hx).1 hx) () (fun i x hi => by omega)
  rw [h, Option.bind_some]
  cases f with
  | nxt s => exact hq.elim
  | brk s => exact ⟨0, rfl, fun _ => ⟨by omega, hq⟩⟩
  | ret e => exact ⟨e, rfl, fun h => absurd h hq⟩
structure ProgOK (p : TProgram) : Prop where
  len : p.Items.length ≤ 60
  item : ∀ (i : Nat) x, p.Items[i]? = some x → ItemOK x
  ch1 : 0 ≤ p.Change
  ch2 : p.Change ≤ 86400000
  cl1 : 0 ≤ p.Clap
  cl2 : p.Clap ≤ 86400000
  br1 : 0 ≤ p.Break
  br2 : p.Break ≤ 86400000
  half1 : -1 ≤ p.Half
  half2 : p.Half = -1 ∨ p.Half + 2 ≤ p.Items.length
theorem ProgramFault_total (p : TProgram) : ∃ e, m_gleeref2_ProgramFault p = some e ∧ (e = 0 → ProgOK p) := by
  unfold m_gleeref2_ProgramFault
  obtain ⟨e, he, hok⟩ := ItemsFault_total p.Items
  rw [he, Option.bind_some]
  by_cases h0 : e = 0
  · subst h0
    obtain ⟨hl, hi⟩ := hok rfl
    simp only [in_spec, Option.bind_some]
    rw [w64_id (by omega)]
    by_cases h1 : 0 ≤ p.Change ∧ p.Change ≤ 86400000
    · by_cases h2 : 0 ≤ p.Clap ∧ p.Clap ≤ 86400000
      · by_cases h3 : 0 ≤ p.Break ∧ p.Break ≤ 86400000
        · by_cases h4 : -1 ≤ p.Half ∧ p.Half ≤ max (-1) ((p.Items.length : Int) - 2)
          · rw [decide_eq_true h1, decide_eq_true h2, decide_eq_true h3, decide_eq_true h4]
            refine ⟨0, rfl, fun _ => ⟨hl, hi, h1.1, h1.2, h2.1, h2.2, h3.1, h3.2, h4.1, ?_⟩⟩
            have := h4.2
            omega
          · rw [decide_eq_true h1, decide_eq_true h2, decide_eq_true h3, decide_eq_false h4]; exact ⟨1, rfl, by simp⟩
        · rw [decide_eq_true h1, decide_eq_true h2, decide_eq_false h3]; exact ⟨1, rfl, by simp⟩
      · rw [decide_eq_true h1, decide_eq_false h2]; exact ⟨1, rfl, by simp⟩
    · rw [decide_eq_false h1]; exact ⟨1, rfl, by simp⟩
  · have : (e != 0) = true := by simpa using h0
    rw [this]
    exact ⟨e, rfl, fun h => absurd h h0⟩
end Go.G
