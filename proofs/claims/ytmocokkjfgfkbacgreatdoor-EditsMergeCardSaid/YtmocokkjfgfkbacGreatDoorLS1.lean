/- LS1: the library's loops over slices, in plain Lean, once for all elements: looking, deleting, insertion sort. No program in sight. -/
import Derived.Test.YtmocokkjfgfkbacGreatDoorL0
namespace Go.G
open Go Go.J
/-! ### two loops side by side -/
/-! ### slices.IndexFunc, slices.DeleteFunc -/
def ixL1 {α : Type} (p : α → Option Bool) (i1 : Nat) (x2 : α) (_ : Unit) : Option (Flow Unit Int) := (p x2).bind fun y8 => ifB y8 (some (.ret (i1 : Int))) (some (.nxt ()))
def ixM {α : Type} (p : α → Option Bool) (a0 : List α) : Option Int := (rangeM (ixL1 p) 0 a0 ()).bind fun f7 => Flow.fin f7 fun _ => some (-1)
theorem rangeM_stop {α σ ρ : Type} (step : Nat → α → σ → Option (Flow σ ρ)) (xs : List α) (I : Nat → σ → Prop) (Q : Flow σ ρ → Prop)
    (h : ∀ i x s, xs[i]? = some x → I i s → ∃ f, step i x s = some f ∧ (∀ s', f = .nxt s' → I (i + 1) s') ∧ (∀ s', f = .brk s' → Q (.brk s')) ∧ ∀ v, f = .ret v → Q (.ret v))
    (he : ∀ s, I xs.length s → Q (.brk s)) (s : σ) (h0 : I 0 s) : ∃ f, rangeM step 0 xs s = some f ∧ Q f := by
  have key : ∀ (t : List α) (i : Nat) (s : σ), xs.drop i = t → i + t.length = xs.length → I i s → ∃ f, rangeM step i t s = some f ∧ Q f := by
    intro t
    induction t with
    | nil => intro i s _ hl hs; exact ⟨.brk s, rfl, he s (by simpa using hl ▸ hs)⟩
    | cons x t ih =>
      intro i s hd hl hs
      have hx : xs[i]? = some x := by
        have : (xs.drop i)[0]? = some x := by rw [hd]; rfl
        simpa using this
      obtain ⟨f, h1, h2, h3, h4⟩ := h i x s hx hs
      have hd' : xs.drop (i + 1) = t := by rw [← List.drop_drop, hd]; rfl
      rw [rangeM_cons, h1]
      cases f with
      | nxt s' => exact ih (i + 1) s' hd' (by simp at hl; omega) (h2 s' rfl)
      | brk s' => exact ⟨_, rfl, h3 s' rfl⟩
      | ret v => exact ⟨_, rfl, h4 v rfl⟩
  exact key xs 0 s rfl (by simp) h0
theorem ixM_spec {α : Type} (p : α → Option Bool) (d : α → Bool) (l : List α) (hp : ∀ x ∈ l, p x = some (d x)) :
    ∃ n, ixM p l = some n ∧ ((n = -1 ∧ ∀ x ∈ l, d x = false) ∨ ∃ k : Nat, n = k ∧ k < l.length ∧ (∀ x ∈ l.take k, d x = false) ∧ ∃ x, l[k]? = some x ∧ d x = true) := by
  unfold ixM
  obtain ⟨f, h1, h2⟩ := rangeM_stop (ixL1 p) l (fun i _ => ∀ x ∈ l.take i, d x = false)
    (fun f => match f with | .nxt _ => False | .brk _ => ∀ x ∈ l, d x = false | .ret n => ∃ k : Nat, n = k ∧ k < l.length ∧ (∀ x ∈ l.take k, d x = false) ∧ ∃ x, l[k]? = some x ∧ d x = true) (by
    intro i x s hx hI
    have hi := (List.getElem?_eq_some_iff.1 hx).1
    unfold ixL1
    rw [hp x (List.mem_of_getElem? hx), Option.bind_some]
    cases hd : d x with
    | true => exact ⟨.ret i, rfl, by simp, by simp, fun v hv => by cases hv; exact ⟨i, rfl, hi, hI, x, hx, hd⟩⟩
    | false =>
      refine ⟨.nxt (), rfl, fun _ _ y hy => ?_, by simp, by simp⟩
      rw [List.take_add_one, hx] at hy
      rcases List.mem_append.1 hy with h | h
      · exact hI y h
      · simp at h; subst h; exact hd) (fun s hI x hx => hI x (by rw [List.take_length]; exact hx)) () (by simp)
  rw [h1, Option.bind_some]
  cases f with
  | nxt s => exact h2.elim
  | brk s => exact ⟨-1, rfl, .inl ⟨rfl, h2⟩⟩
  | ret n => exact ⟨n, rfl, .inr h2⟩
noncomputable def dfL1 {α ρ : Type} (p : α → Option Bool) (u2 : Int × Int × List α) : Option (Flow (Int × Int × List α) ρ) :=
  ifB (decide (u2.2.1 < (u2.2.2.length : Int))) ((getI u2.2.2 u2.2.1).bind fun e6 => (p e6).bind fun y8 => ifB (!y8) ((getI u2.2.2 u2.1).bind fun _ => some (.nxt (w64 (u2.1 + 1), w64 (u2.2.1 + 1), (u2.2.2.set u2.1.toNat e6)))) (some (.nxt (u2.1, w64 (u2.2.1 + 1), u2.2.2)))) (some (.brk (u2.1, u2.2.1, u2.2.2)))
noncomputable def dfM {α : Type} (z : α) (p : α → Option Bool) (a0 : List α) : Option (List α) :=
  (ixM p a0).bind fun y1 => ifB (y1 == (-1)) (some a0) ((loopM (dfL1 p) (y1, w64 (y1 + 1), a0)).bind fun f5 => Flow.fin f5 fun u2 => (sliceI u2.2.2 u2.1 (u2.2.2.length : Int)).bind fun _ => (sliceI (clearM z u2.2.2 u2.1) 0 u2.1).bind fun q14 => some q14)
/-! ### insertion sort -/
noncomputable def isL2 {α ρ : Type} (cmp : α → α → Option Int) (a1 : Int) (u5 : Int × List α) : Option (Flow (Int × List α) ρ) :=
  ifB (decide (u5.1 > a1)) ((getI u5.2 u5.1).bind fun e9 => (getI u5.2 (w64 (u5.1 - 1))).bind fun e10 => (cmp e9 e10).bind fun y11 => ifB (decide (y11 < 0)) ((getI u5.2 (w64 (u5.1 - 1))).bind fun e12 => (getI u5.2 u5.1).bind fun e13 => (getI u5.2 u5.1).bind fun _ => (getI (u5.2.set u5.1.toNat e12) (w64 (u5.1 - 1))).bind fun _ => some (.nxt (w64 (u5.1 - 1), ((u5.2.set u5.1.toNat e12).set ((w64 (u5.1 - 1)).toNat) e13)))) (some (.brk (u5.1, u5.2)))) (some (.brk (u5.1, u5.2)))
noncomputable def isL1 {α ρ : Type} (cmp : α → α → Option Int) (a1 a2 : Int) (u1 : Int × List α) : Option (Flow (Int × List α) ρ) :=
  ifB (decide (u1.1 < a2)) ((loopM (isL2 (ρ := Flow (Int × List α) ρ) cmp a1) (u1.1, u1.2)).bind fun f8 => Flow.fin f8 fun u5 => some (.nxt (w64 (u1.1 + 1), u5.2))) (some (.brk (u1.1, u1.2)))
noncomputable def isM {α : Type} (cmp : α → α → Option Int) (a0 : List α) (a1 a2 : Int) : Option (List α) :=
  (loopM (isL1 (ρ := List α) cmp a1 a2) (w64 (a1 + 1), a0)).bind fun f4 => Flow.fin f4 fun u1 => some u1.2
/-- loops that mirror each other -/
def Flow.mapF {σ σ' ρ ρ' : Type} (f : σ → σ') (g : ρ → ρ') : Flow σ ρ → Flow σ' ρ'
  | .nxt s => .nxt (f s)
  | .brk s => .brk (f s)
  | .ret r => .ret (g r)
theorem loopM_map {σ σ' ρ ρ' : Type} {step : σ → Option (Flow σ ρ)} {step' : σ' → Option (Flow σ' ρ')} (f : σ → σ') (g : ρ → ρ') (I : σ → Prop)
    (h : ∀ s, I s → step' (f s) = (step s).map (Flow.mapF f g)) (hI : ∀ s s', I s → step s = some (.nxt s') → I s') (s : σ) (hs : I s) {r : Flow σ ρ} (hr : loopM step s = some r) : loopM step' (f s) = some (Flow.mapF f g r) := by
  obtain ⟨n, hn⟩ := runN_of_loopM hr
  refine loopM_of_runN (n := n) ?_
  clear hr
  induction n generalizing s with
  | zero => cases hn
  | succ n ih =>
    obtain ⟨q, hq, h2⟩ := bindS hn
    show (step' (f s)).bind _ = _
    rw [h s hs, hq]
    cases q with
    | nxt s' => exact ih s' (hI s s' hs hq) h2
    | brk s' => cases h2; rfl
    | ret v => cases h2; rfl
/-- one insertion: where the loop ends -/
theorem isL2_total {α ρ : Type} (cmp : α → α → Option Int) (l : List α) (hl : l.length ≤ 1000000) (hc : ∀ x ∈ l, ∀ y ∈ l, ∃ c, cmp x y = some c) (j : Nat) (hj : j < l.length ∨ j = 0) :
    ∃ (m : List α) (k : Nat), loopM (isL2 (ρ := ρ) cmp 0) ((j : Int), l) = some (.brk ((k : Int), m)) ∧ List.Perm m l := by
  obtain ⟨f, h1, m, k, rfl, h2⟩ := loopM_post (ρ := ρ) (isL2 cmp 0) (fun s => ∃ (i : Nat) (m : List α), s = ((i : Int), m) ∧ (i < l.length ∨ i = 0) ∧ List.Perm m l) (fun s => s.1.toNat) (fun f => ∃ (m : List α) (k : Nat), f = .brk ((k : Int), m) ∧ List.Perm m l) (by
    rintro s ⟨i, m, rfl, hi, hp⟩
    have hlen := hp.length_eq
    unfold isL2
    simp only
    by_cases h0 : (i : Int) > 0
    · have hil : i < m.length := by omega
      have e1 : m[i]? = some m[i] := List.getElem?_eq_getElem hil
      have e2 : m[i - 1]? = some m[i - 1] := List.getElem?_eq_getElem (by omega)
      have e3 : getI m ((i : Int) - 1) = some m[i - 1] := getI_of (n := i - 1) (by omega) e2
      obtain ⟨c, hcc⟩ := hc m[i] (hp.subset (List.getElem_mem _)) m[i - 1] (hp.subset (List.getElem_mem _))
      rw [decide_eq_true h0, ifB_true, w64_id (by omega), getI_nat, e1, e3, Option.bind_some, Option.bind_some, hcc, Option.bind_some]
      by_cases hcn : c < 0
      · left
        have e4 : getI (m.set i m[i - 1]) ((i : Int) - 1) = some m[i - 1] := getI_of (n := i - 1) (by omega) (by rw [List.getElem?_set_ne (by omega)]; exact e2)
        rw [decide_eq_true hcn, ifB_true]
        simp only [Option.bind_some]
        rw [show ((i : Int)).toNat = i by omega, e4, Option.bind_some]
        refine ⟨_, rfl, ⟨i - 1, (m.set i m[i - 1]).set (i - 1) m[i], ?_, ?_, ?_⟩, by simp only; omega⟩
        · rw [show ((i : Int) - 1).toNat = i - 1 by omega, show (i : Int) - 1 = ((i - 1 : Nat) : Int) by omega]
        · omega
        · exact (List.set_set_perm (by omega) (by omega)).trans hp
      · right; left
        rw [decide_eq_false hcn, ifB_false]
        exact ⟨_, rfl, m, i, rfl, hp⟩
    · right; left
      rw [decide_eq_false h0, ifB_false]
      exact ⟨_, rfl, m, i, rfl, hp⟩) ((j : Int), l) ⟨j, l, rfl, hj, List.Perm.refl _⟩
  exact ⟨m, k, h1, h2⟩
theorem isM_total {α : Type} (cmp : α → α → Option Int) (l : List α) (hl : l.length ≤ 1000000) (hc : ∀ x ∈ l, ∀ y ∈ l, ∃ c, cmp x y = some c) : ∃ m, isM cmp l 0 (l.length : Int) = some m ∧ List.Perm m l := by
  unfold isM
  obtain ⟨f, h1, m, k, rfl, h2⟩ := loopM_post (ρ := List α) (isL1 cmp 0 (l.length : Int)) (fun s => ∃ (i : Nat) (m : List α), s = ((i : Int), m) ∧ i ≤ l.length + 1 ∧ List.Perm m l) (fun s => l.length + 1 - s.1.toNat) (fun f => ∃ (m : List α) (k : Int), f = .brk (k, m) ∧ List.Perm m l) (by
    rintro s ⟨i, m, rfl, hi, hp⟩
    have hlen := hp.length_eq
    unfold isL1
    simp only
    by_cases h0 : (i : Int) < l.length
    · left
      obtain ⟨m', k, h3, h4⟩ := isL2_total (ρ := Flow (Int × List α) (List α)) cmp m (by omega) (fun x hx y hy => hc x (hp.subset hx) y (hp.subset hy)) i (.inl (by omega))
      rw [decide_eq_true h0, ifB_true, h3, Option.bind_some, fin_brk, w64_id (by omega)]
      exact ⟨_, rfl, ⟨i + 1, m', by simp, by omega, h4.trans hp⟩, by simp only; omega⟩
    · right; left
      rw [decide_eq_false h0, ifB_false]
      exact ⟨_, rfl, m, (i : Int), rfl, hp⟩) (w64 (0 + 1), l) ⟨1, l, by rw [w64_id (by omega)]; rfl, by omega, List.Perm.refl _⟩
  rw [h1, Option.bind_some, fin_brk]
  exact ⟨m, rfl, h2⟩
theorem getI_map {α β : Type} (f : α → β) (l : List α) (i : Int) : getI (l.map f) i = (getI l i).map f := by unfold getI; split <;> simp
theorem getI_mem {α : Type} {l : List α} {i : Int} {x : α} (h : getI l i = some x) : x ∈ l := List.mem_of_getElem? (getI_spec h).2
theorem isL2_map {α β ρ ρ' : Type} (f : α → β) (g : ρ → ρ') (cA : β → β → Option Int) (cB : α → α → Option Int) (l : List α)
    (hc : ∀ x ∈ l, ∀ y ∈ l, ∃ a b, cA (f x) (f y) = some a ∧ cB x y = some b ∧ decide (a < 0) = decide (b < 0)) (s : Int × List α) (hs : ∀ x ∈ s.2, x ∈ l) :
    isL2 (ρ := ρ') cA 0 (s.1, s.2.map f) = (isL2 (ρ := ρ) cB 0 s).map (Flow.mapF (fun s : Int × List α => (s.1, s.2.map f)) g) ∧ ∀ s', isL2 (ρ := ρ) cB 0 s = some (.nxt s') → ∀ x ∈ s'.2, x ∈ l := by
  unfold isL2
  simp only [getI_map]
  cases decide (s.1 > 0) with
  | false => exact ⟨rfl, by simp⟩
  | true =>
    rw [ifB_true, ifB_true]
    cases h9 : getI s.2 s.1 with
    | none => exact ⟨rfl, by simp⟩
    | some e9 =>
      cases h10 : getI s.2 (w64 (s.1 - 1)) with
      | none => exact ⟨rfl, by simp⟩
      | some e10 =>
        obtain ⟨a, b, h1, h2, h3⟩ := hc e9 (hs _ (getI_mem h9)) e10 (hs _ (getI_mem h10))
        simp only [Option.map_some, Option.bind_some, h1, h2, h3]
        cases decide (b < 0) with
        | false => exact ⟨rfl, by simp⟩
        | true =>
          rw [ifB_true, ifB_true, ← List.map_set, getI_map]
          cases h15 : getI (s.2.set s.1.toNat e10) (w64 (s.1 - 1)) with
          | none => exact ⟨rfl, by simp⟩
          | some e15 =>
            refine ⟨by simp [Flow.mapF, List.map_set], fun s' h x hx => ?_⟩
            simp only [Option.bind_some, Option.some.injEq, Flow.nxt.injEq] at h
            subst h
            rcases List.mem_or_eq_of_mem_set hx with h | h
            · rcases List.mem_or_eq_of_mem_set h with h | h
              · exact hs x h
              · rw [h]; exact hs _ (getI_mem h10)
            · rw [h]; exact hs _ (getI_mem h9)
/-- insertion sort does not look at what the comparison does not see -/
theorem isM_map {α β : Type} (f : α → β) (cA : β → β → Option Int) (cB : α → α → Option Int) (l : List α) (hl : l.length ≤ 1000000)
    (hc : ∀ x ∈ l, ∀ y ∈ l, ∃ a b, cA (f x) (f y) = some a ∧ cB x y = some b ∧ decide (a < 0) = decide (b < 0)) :
    ∃ m, isM cB l 0 (l.length : Int) = some m ∧ List.Perm m l ∧ isM cA (l.map f) 0 (l.length : Int) = some (m.map f) := by
  have hcB : ∀ x ∈ l, ∀ y ∈ l, ∃ c, cB x y = some c := fun x hx y hy => by obtain ⟨a, b, -, h, -⟩ := hc x hx y hy; exact ⟨b, h⟩
  obtain ⟨m, h1, h2⟩ := isM_total cB l hl hcB
  refine ⟨m, h1, h2, ?_⟩
  unfold isM at h1 ⊢
  obtain ⟨r, h3, h4⟩ := bindS h1
  have key := loopM_map (step' := isL1 (ρ := List β) cA 0 (l.length : Int)) (fun s : Int × List α => (s.1, s.2.map f)) (fun r : List α => r.map f)
    (fun s => ∃ (i : Nat) (m : List α), s = ((i : Int), m) ∧ i ≤ l.length + 1 ∧ List.Perm m l) (by
      rintro s ⟨i, m, rfl, hi, hp⟩
      have hlen := hp.length_eq
      unfold isL1
      simp only
      by_cases h0 : (i : Int) < l.length
      · obtain ⟨m', k, h5, h6⟩ := isL2_total (ρ := Flow (Int × List α) (List α)) cB m (by omega) (fun x hx y hy => hcB x (hp.subset hx) y (hp.subset hy)) i (.inl (by omega))
        have h7 := loopM_map (step' := isL2 (ρ := Flow (Int × List β) (List β)) cA 0) (fun s : Int × List α => (s.1, s.2.map f)) (fun r : Flow (Int × List α) (List α) => (Flow.mapF (fun s : Int × List α => (s.1, s.2.map f)) (fun r : List α => r.map f) r))
          (fun s => ∀ x ∈ s.2, x ∈ l) (fun s hs => (isL2_map f _ cA cB l hc s hs).1) (fun s s' hs h => (isL2_map (ρ' := Flow (Int × List β) (List β)) f (Flow.mapF (fun s : Int × List α => (s.1, s.2.map f)) (fun r : List α => r.map f)) cA cB l hc s hs).2 s' h) ((i : Int), m) (fun x hx => hp.subset hx) h5
        simp only at h7
        rw [decide_eq_true h0, ifB_true, ifB_true, h5, h7]
        rfl
      · rw [decide_eq_false h0, ifB_false, ifB_false]
        rfl) (by
      rintro s s' ⟨i, m, rfl, hi, hp⟩ hs
      have hlen := hp.length_eq
      unfold isL1 at hs
      simp only at hs
      by_cases h0 : (i : Int) < l.length
      · obtain ⟨m', k, h5, h6⟩ := isL2_total (ρ := Flow (Int × List α) (List α)) cB m (by omega) (fun x hx y hy => hcB x (hp.subset hx) y (hp.subset hy)) i (.inl (by omega))
        rw [decide_eq_true h0, ifB_true, h5, Option.bind_some, fin_brk, w64_id (by omega)] at hs
        cases hs
        exact ⟨i + 1, m', by simp, by omega, h6.trans hp⟩
      · rw [decide_eq_false h0, ifB_false] at hs
        cases hs) (w64 (0 + 1), l) ⟨1, l, by rw [w64_id (by omega)]; rfl, by omega, List.Perm.refl _⟩ h3
  rw [key]
  cases r with
  | nxt s => simp [Flow.fin] at h4
  | brk s => simp only [fin_brk, Option.some.injEq] at h4; subst h4; rfl
  | ret v => simp only [fin_ret, Option.some.injEq] at h4; subst h4; rfl
end Go.G
