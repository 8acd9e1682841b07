/- J13: regions that draw their order and end in stores: what is read ahead of the stores may be taken first. No program in sight. -/
import Derived.Test.YtfgekmoffcobaaaGreatDoorJ12
namespace Go.J
open Go Go.RowKit
/-- behind operation j: the world is as it was (those in st0); S2 holds (those in st2); S1 holds -/
def SofT (st0 st2 : List Nat) (S1 S2 : World → Prop) (j : Nat) (w w' : World) : Prop := if st0.contains j = true then w' = w else if st2.contains j = true then S2 w' else S1 w'
def wpAnyT (P : Program) (ops : Array Oper) (Q : Exit → Act → World → Prop) (st0 st2 : List Nat) (S1 S2 : World → Prop) : Nat → Array Bool → Act → World → Prop
  | 0, listed, a, w => Region.ready .any ops listed = [] ∧ Q .normal a w
  | fuel + 1, listed, a, w => (Region.ready .any ops listed = [] → Q .normal a w) ∧
      ∀ i ∈ Region.ready .any ops listed, wpOp P ops Q i (fun a' w' => SofT st0 st2 S1 S2 i w w' ∧ wpAnyT P ops Q st0 st2 S1 S2 fuel (listed.setIfInBounds i true) a' w') a w
section
variable {P : Program} {ops : Array Oper} {Q : Exit → Act → World → Prop} {st0 st2 : List Nat} {S1 S2 : World → Prop}
theorem wpAny_of_T : ∀ (fuel : Nat) (listed : Array Bool) (a : Act) (w : World), wpAnyT P ops Q st0 st2 S1 S2 fuel listed a w → wpAny P .any ops Q fuel listed a w
  | 0, _, _, _, h => h
  | fuel + 1, _, _, _, h => ⟨h.1, fun i hi => wpOp_mono (fun a' w' h' => wpAny_of_T fuel _ a' w' h'.2) (h.2 i hi)⟩
theorem wpAnyT_first {Y : World → Prop} {i : Nat} {oi : Oper} {v : Value} (hi : ops[i]? = some oi) (hsel : ∀ (j : Nat) (o : Oper) cs b, ops[j]? = some o → o.op ≠ .select cs b)
    (hQ : ∀ c a w, Q (.panic c) (a.put oi.dst v) w → Q (.panic c) a w) (hSi : st0.contains i = true) :
    ∀ (fuel : Nat) (listed : Array Bool) (a : Act) (w : World),
      (∀ j oj, ops[j]? = some oj → j ≠ i → listed.getD j true = false → (∀ e ∈ oj.after, Region.binds .any e = true → e.on ≠ i) → oi.apart ops oj = true) →
      (∀ j oj, ops[j]? = some oj → j ≠ i → listed.getD j true = false → (∀ e ∈ oj.after, Region.binds .any e = true → e.on ≠ i) → st0.contains j = true ∨ (st0.contains j = false ∧ ∀ w w', SofT st0 st2 S1 S2 j w w' → Y w')) →
      i ∈ Region.ready .any ops listed → YieldsIf P ops Y oi v a → Y w →
      wpAnyT P ops Q st0 st2 S1 S2 fuel (listed.setIfInBounds i true) (a.put oi.dst v) w → wpAnyT P ops Q st0 st2 S1 S2 (fuel + 1) listed a w := by
  intro fuel
  induction fuel with
  | zero =>
    intro listed a w _ _ hr hy hS H
    refine ⟨fun h => (by rw [h] at hr; cases hr), fun j hj => ?_⟩
    by_cases hji : j = i
    · subst hji; exact hy.wpOp hi hS ⟨by unfold SofT; rw [if_pos hSi], H⟩
    · have := ready_mono hj hji
      rw [H.1] at this
      cases this
  | succ fuel ih =>
    intro listed a w hfree hst hr hy hS H
    refine ⟨fun h => (by rw [h] at hr; cases hr), fun j hj => ?_⟩
    by_cases hji : j = i
    · subst hji; exact hy.wpOp hi hS ⟨by unfold SofT; rw [if_pos hSi], H⟩
    · have h1 := H.2 j (ready_mono hj hji)
      obtain ⟨hjun, oj, hoj, hall⟩ := mem_ready.1 hj
      have hnot : ∀ e ∈ oj.after, Region.binds .any e = true → e.on ≠ i := fun e he hb heq => by
        have h1 := hall e he hb
        have h0 := (mem_ready.1 hr).1
        rw [heq] at h1
        rcases Nat.lt_or_ge i listed.size with h' | h'
        · simp [h'] at h0 h1; rw [h0] at h1; cases h1
        · simp [Array.getElem?_eq_none h'] at h1
      have h2 := wpOp_putIf hoj (hfree j oj hoj hji hjun hnot) (fun cs b => hsel i oi cs b hi) (fun cs b => hsel j oj cs b hoj) hQ hy h1
      have hmono : ∀ k, (listed.setIfInBounds j true).getD k true = false → listed.getD k true = false := fun k hun => by
        by_cases hjk : j = k
        · subst hjk; exact hjun
        · rw [getD_set_ne true hjk] at hun; exact hun
      refine wpOp_mono (fun a' w' h3 => ⟨h3.2.1, ih (listed.setIfInBounds j true) a' w' (fun k ok hk hki hun hno => hfree k ok hk hki (hmono k hun) hno)
        (fun k ok hk hki hun hno => hst k ok hk hki (hmono k hun) hno) (ready_mono hr (Ne.symm hji)) h3.1 (by
          rcases hst j oj hoj hji hjun hnot with h4 | ⟨_, h4⟩
          · have h5 := h3.2.1
            unfold SofT at h5
            rw [if_pos h4] at h5
            rw [h5]; exact hS
          · exact h4 w w' h3.2.1) ?_⟩) h2
      rw [Array.setIfInBounds_comm _ _ hji]
      exact h3.2.2
end
/-- every store that has not come up waits for operation i -/
def stWaits (opl : List Oper) (st2 : List Nat) (listed : Array Bool) (i : Nat) : Bool :=
  st2.all fun j => listed.getD j true || match nth opl j with | some o => o.after.any (fun e => Region.binds .any e && Nat.beq e.on i) | none => true
def AT (P : Program) (R : Post) (opl : List Oper) (K : List Lay) (st0 st2 : List Nat) (S1 S2 : World → Prop) (fuel : Nat) (listed : Array Bool) (N : NN) (l : Fr) (H : World → Prop) : Prop :=
  ∀ a w, Frm N l a → H w → wpAnyT P opl.toArray (QK P R K) st0 st2 S1 S2 fuel listed a w
section
variable {P : Program} {R : Post} {K : List Lay} {N : NN} {l : Fr} {H : World → Prop} {opl : List Oper} {st0 st2 : List Nat} {S1 S2 : World → Prop} {fuel : Nat} {listed : Array Bool} {d ty i id : Nat} {op : Op} {pos : String} {af : Array Edge} {v : Value}
variable {w0 : World} {M : List Nat} {A : Nat → Prop} {es : List Ent}
theorem cj_anyT (st0 st2 : List Nat) (S1 S2 : World → Prop) (hm : P.follows .mixedOrders = true) (h : AT P R opl K st0 st2 S1 S2 opl.length (Array.replicate opl.length false) N l (Sat w0 M A es)) : CJ P R (.region id opl.toArray true) K N l (Sat w0 M A es) :=
  fun a _ hf hw => wpS_region_any hm (wpAny_of_T _ _ _ _ (by simpa using h a _ hf hw.drew))
/-- taken first: what every world ahead of the stores yields -/
theorem at_take1 [PanicOk R] (i : Nat) (ho : nth opl i = some ⟨some d, op, ty, pos, af, none⟩) (hs : Region.noSelect opl.toArray = true) (hf : Region.free .any opl.toArray listed i = true) (hr : (Region.ready .any opl.toArray listed).contains i = true)
    (hw : stWaits opl st2 listed i = true) (h2 : st0.contains i = true) (hd : Nat.blt d N.n = true) (hp : PureOp P N ⟨some d, op, ty, pos, af, none⟩ l S1 v) (hS : ∀ w, H w → S1 w)
    (h : AT P R opl K st0 st2 S1 S2 fuel (listed.setIfInBounds i true) N ((d, v) :: l) H) : AT P R opl K st0 st2 S1 S2 (fuel + 1) listed N l H := by
  intro a w hfr hw'
  have ho' : opl.toArray[i]? = some ⟨some d, op, ty, pos, af, none⟩ := by rw [List.getElem?_toArray, ← nth_eq]; exact ho
  refine wpAnyT_first (Y := S1) (v := v) ho' (Region.noSelect_spec hs) (fun c a w h => QK_panic h) h2 fuel listed a w (Region.free_spec ho' hf) ?_ (by simpa using hr)
    (.inl ⟨by simp [Region.wanted], fun w' hw' => hp a w' hfr hw'⟩) (hS w hw') (h _ _ (hfr.put hd v) hw')
  intro j oj hj hji hun hno
  cases h0 : st0.contains j with
  | true => exact .inl rfl
  | false =>
    refine .inr ⟨rfl, fun w1 w hSw => ?_⟩
    unfold SofT at hSw
    rw [h0, if_neg (by simp)] at hSw
    split at hSw
    · rename_i hc
      unfold stWaits at hw
      have h3 := List.all_eq_true.1 hw j (by simpa using hc)
      rw [hun, nth_eq] at h3
      rw [List.getElem?_toArray] at hj
      rw [hj] at h3
      simp only [Bool.false_or, Array.any_eq_true, Bool.and_eq_true, Nat.beq_eq] at h3
      obtain ⟨k, hk, hb, he⟩ := h3
      exact absurd he (hno _ (Array.getElem_mem hk) hb)
    · exact hSw
/-- taken first: what every world yields -/
theorem at_take2 [PanicOk R] (i : Nat) (ho : nth opl i = some ⟨some d, op, ty, pos, af, none⟩) (hs : Region.noSelect opl.toArray = true) (hf : Region.free .any opl.toArray listed i = true) (hr : (Region.ready .any opl.toArray listed).contains i = true)
    (h12 : ∀ w, S1 w → S2 w) (h2 : st0.contains i = true) (hd : Nat.blt d N.n = true) (hp : PureOp P N ⟨some d, op, ty, pos, af, none⟩ l S2 v) (hS : ∀ w, H w → S2 w)
    (h : AT P R opl K st0 st2 S1 S2 fuel (listed.setIfInBounds i true) N ((d, v) :: l) H) : AT P R opl K st0 st2 S1 S2 (fuel + 1) listed N l H := by
  intro a w hfr hw'
  have ho' : opl.toArray[i]? = some ⟨some d, op, ty, pos, af, none⟩ := by rw [List.getElem?_toArray, ← nth_eq]; exact ho
  refine wpAnyT_first (Y := S2) (v := v) ho' (Region.noSelect_spec hs) (fun c a w h => QK_panic h) h2 fuel listed a w (Region.free_spec ho' hf) ?_ (by simpa using hr)
    (.inl ⟨by simp [Region.wanted], fun w' hw' => hp a w' hfr hw'⟩) (hS w hw') (h _ _ (hfr.put hd v) hw')
  intro j oj hj hji hun hno
  cases h0 : st0.contains j with
  | true => exact .inl rfl
  | false =>
    refine .inr ⟨rfl, fun w1 w hSw => ?_⟩
    unfold SofT at hSw
    rw [h0, if_neg (by simp)] at hSw
    split at hSw
    · exact hSw
    · exact h12 w hSw
theorem at_done (hr : Region.ready .any opl.toArray listed = []) (h : NJ P R K N l H) : AT P R opl K st0 st2 S1 S2 fuel listed N l H := fun a w hf hw => by
  cases fuel with
  | zero => exact ⟨hr, h a w hf hw⟩
  | succ n => exact ⟨fun _ => h a w hf hw, by rw [hr]; simp⟩
inductive EachT (P : Program) (R : Post) (opl : List Oper) (K : List Lay) (st0 st2 : List Nat) (S1 S2 : World → Prop) (fuel : Nat) (listed : Array Bool) (N : NN) (l : Fr) (H : World → Prop) : List Nat → Prop where
  | nil : EachT P R opl K st0 st2 S1 S2 fuel listed N l H []
  | cons {i : Nat} {rs : List Nat} {o : Oper} (ho : nth opl i = some o)
      (h : ∀ I : Act → World → Prop, (∀ (l' : Fr) (H' : World → Prop), (∀ w w', H' w' → SofT st0 st2 S1 S2 i w w') → AT P R opl K st0 st2 S1 S2 fuel (listed.setIfInBounds i true) N l' H' → NJ P R (.inv I :: K) N l' H') → LJ P R opl.toArray [o] (.inv I :: K) N l H)
      (t : EachT P R opl K st0 st2 S1 S2 fuel listed N l H rs) : EachT P R opl K st0 st2 S1 S2 fuel listed N l H (i :: rs)
theorem at_each {rs : List Nat} (hr : Region.ready .any opl.toArray listed = rs) (hne : rs ≠ []) (h : EachT P R opl K st0 st2 S1 S2 fuel listed N l H rs) : AT P R opl K st0 st2 S1 S2 (fuel + 1) listed N l H := by
  intro a w hf hw
  refine ⟨fun h0 => absurd (hr ▸ h0) hne, fun i hi => ?_⟩
  rw [hr] at hi
  clear hr hne
  induction h with
  | nil => cases hi
  | cons ho h _ ih =>
    rcases List.mem_cons.1 hi with h1 | h1
    · subst h1
      rename_i o _
      have hl := h (fun a' w' => SofT st0 st2 S1 S2 i w w' ∧ wpAnyT P opl.toArray (QK P R K) st0 st2 S1 S2 fuel (listed.setIfInBounds i true) a' w') (fun l' H' hS' hA => nj_inv fun a w' hf hw => ⟨hS' w w' hw, hA a w' hf hw⟩) a w hf hw
      unfold wpOp
      have ho' : opl.toArray[i]? = some o := by rw [List.getElem?_toArray, ← nth_eq]; exact ho
      simp only [ho']
      unfold wpList at hl
      have hQ : ∀ e a1 w1, QK P R (.inv (fun a' w' => SofT st0 st2 S1 S2 i w w' ∧ wpAnyT P opl.toArray (QK P R K) st0 st2 S1 S2 fuel (listed.setIfInBounds i true) a' w') :: K) e a1 w1 → e ≠ .normal → QK P R K e a1 w1 := by
        intro e a1 w1 hq hne
        cases e with
        | normal => exact (hne rfl).elim
        | exit id => exact hq
        | goto l => exact hq
        | ret => exact hq
        | panic ch => exact hq
        | outgrown => exact hq
      split at hl
      · rename_i hwt
        rw [if_pos hwt]
        rcases hl with hl | ⟨h2, a', w', h3⟩
        · left
          unfold Oper.wp at hl ⊢
          generalize (execOp a.eval o).run P w = r at *
          cases r with
          | ok n w' =>
            cases n <;> simp only [Oper.upon] at hl ⊢ <;>
              first
                | exact hl
                | exact Calls.mono hl (fun e w'' he => by cases e <;> first | exact he | exact hQ _ _ _ he (by simp) | (obtain ⟨a, w, h⟩ := he; exact ⟨a, w, hQ _ _ _ h (by simp)⟩))
                | exact Rows.mono hl (fun _ _ he => he)
          | halt x w' => cases x <;> simp only [Oper.upon] at hl ⊢ <;> first | exact hQ _ _ _ hl (by simp) | exact hl
        · exact .inr ⟨h2, a', w', hQ _ _ _ h3 (by simp)⟩
      · rename_i hwt
        rw [if_neg hwt]
        exact hl
    · exact ih h1
theorem sof1 {i : Nat} (h0 : st0.contains i = false) (h2 : st2.contains i = false) (hS : ∀ w, H w → S1 w) : ∀ w w', H w' → SofT st0 st2 S1 S2 i w w' := fun w w' hw => by unfold SofT; rw [h0, h2]; exact hS w' hw
theorem sof2 {i : Nat} (h0 : st0.contains i = false) (h2 : st2.contains i = true) (hS : ∀ w, H w → S2 w) : ∀ w w', H w' → SofT st0 st2 S1 S2 i w w' := fun w w' hw => by unfold SofT; rw [h0, h2]; exact hS w' hw
end
/-! ### strings compared -/
theorem ba_toList_inj {a b : ByteArray} : a.toList = b.toList ↔ a = b := by
  rw [ByteArray.toList_eq, ByteArray.toList_eq]
  exact ⟨fun h => ByteArray.ext (Array.toList_inj.1 h), fun h => h ▸ rfl⟩
theorem ba_beq {a b : ByteArray} : (a == b) = true ↔ a = b := by rw [beq_toListBytes, beq_iff_eq, ba_toList_inj]
/-! ### addresses into a slice that is not nil -/
section
variable {P : Program} {N : NN} {l : Fr} {H : World → Prop} {dd : Option Nat} {ty : Nat} {pos : String} {af : Array Edge} {g : Option (Nat × Bool)} {x : Operand} {T : TypeId} {s : SV} {q j o : Nat}
theorem RdS.some_of {α : Type} {R : Rep α} {xs : List α} {e : α} {i : Nat} {w : World} (h : RdS R s.v xs w) (he : xs[i]? = some e) : s.a.isSome = true := by
  obtain ⟨b, off, ha, _⟩ := h.at_ he
  rw [ha]; rfl
theorem p_fas (hF : FldF P T j o) (hx : ev l x = some (s.p q)) (ha : s.a.isSome = true) : PureOp P N ⟨dd, .fieldAddr T x j, ty, pos, af, g⟩ l H (s.p (q + o)) := fun a w hf _ => by
  obtain ⟨⟨b, off, sp⟩, hq⟩ := Option.isSome_iff_exists.1 ha
  have h := hF ⟨b, off + q, none⟩ w
  rw [add_at, Nat.add_assoc] at h
  simp [execOp, hf.ev hx, SV.p, SV.at_, hq, h]
end
end Go.J
