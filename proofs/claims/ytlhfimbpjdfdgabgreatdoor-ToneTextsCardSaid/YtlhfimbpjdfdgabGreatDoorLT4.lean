/- LT4: texts that are read line by line, by both ways. In plain Lean, no program in sight. -/
import Derived.Test.YtlhfimbpjdfdgabGreatDoorLT3
namespace Go.G
open Go Go.J
set_option linter.unusedSimpArgs false
set_option linter.unusedVariables false
/-- the program's loop over the lines that are ended -/
theorem progLoop {σ ρ : Type} (step : Nat → ByteArray → σ → Option (Flow σ ρ)) (F : Nat → σ → BL → Option σ) (I : Nat → σ → Prop) (err : Nat → ρ) (m : Nat)
    (hF : ∀ i s x z, I i s → F i s x = some z → I (i + 1) z)
    (hst : ∀ i s x, I i s → x.length ≤ 200000 → i + 1 ≤ m → step i (toB x) s = some (match F i s x with | some z => .nxt z | none => .ret (err i))) (Q : List ByteArray) :
    ∀ (P : List BL) (i : Nat) (s : σ), (∀ x ∈ P, x.length ≤ 200000) → I i s → i + P.length ≤ m →
      rangeM step i (P.map toB ++ Q) s = match rdL F i P s with
        | .inl k => some (.ret (err k))
        | .inr s' => rangeM step (i + P.length) Q s' := by
  intro P
  induction P with
  | nil => intro i s _ _ _; rfl
  | cons x t ih =>
    intro i s hx hI hm
    simp only [List.length_cons] at hm
    rw [List.map_cons, List.cons_append, rangeM_cons, hst i s x hI (hx x (List.mem_cons_self ..)) (by omega)]
    unfold rdL
    cases hp : F i s x with
    | none => rfl
    | some z =>
      simp only [Option.bind_some, run_nxt]
      rw [ih (i + 1) z (fun y hy => hx y (List.mem_cons_of_mem _ hy)) (hF i s x z hI hp) (by omega), List.length_cons, show i + 1 + t.length = i + (t.length + 1) by omega]
theorem rdL_inv {σ : Type} (F : Nat → σ → BL → Option σ) (I : Nat → σ → Prop) (hF : ∀ i s x z, I i s → F i s x = some z → I (i + 1) z) : ∀ (P : List BL) (i : Nat) (s v : σ), I i s → rdL F i P s = .inr v → I (i + P.length) v := by
  intro P
  induction P with
  | nil => intro i s v hI h; simp [rdL] at h; rw [← h]; exact hI
  | cons x t ih =>
    intro i s v hI h
    unfold rdL at h
    cases hp : F i s x with
    | none => rw [hp] at h; cases h
    | some z =>
      rw [hp] at h
      have := ih (i + 1) z v (hF i s x z hI hp) h
      rw [List.length_cons, show i + (t.length + 1) = i + 1 + t.length by omega]; exact this
/-- the reference's loop over what is left of a text -/
theorem refLoop {σ ρ : Type} (step : (ByteArray × Int × σ) → Option (Flow (ByteArray × Int × σ) ρ)) (F : Nat → σ → BL → Option σ) (I : Nat → σ → Prop) (bad : ρ → Int → Prop)
    (hF : ∀ i s x z, I i s → F i s x = some z → I (i + 1) z)
    (h0 : ∀ (i : Int) s, step (toB [], i, s) = some (.brk (toB [], i, s)))
    (h1 : ∀ (i : Int) s l, l ≠ [] → (10 : UInt8) ∉ l → ∃ v, step (toB l, i, s) = some (.ret v) ∧ bad v i)
    (h2 : ∀ (i : Nat) s x r, I i s → (10 : UInt8) ∉ x → x.length ≤ 200000 → (x ++ 10 :: r).length ≤ 200000 → i ≤ 300000 → ∃ f, step (toB (x ++ 10 :: r), (i : Int), s) = some f ∧ match F i s x with
      | some z => f = .nxt (toB r, ((i + 1 : Nat) : Int), z)
      | none => ∃ v, f = .ret v ∧ bad v (i : Int))
    (l : BL) (hl : (10 : UInt8) ∉ l) : ∀ (P : List BL) (i : Nat) (s : σ), (∀ x ∈ P, (10 : UInt8) ∉ x ∧ x.length ≤ 200000) → (jn 10 (P ++ [l])).length ≤ 200000 → I i s → i + P.length ≤ 300000 →
      match rdL F i P s with
      | .inl k => ∃ v, loopM step (toB (jn 10 (P ++ [l])), (i : Int), s) = some (.ret v) ∧ bad v (k : Int)
      | .inr s' => if l = [] then loopM step (toB (jn 10 (P ++ [l])), (i : Int), s) = some (.brk (toB [], ((i + P.length : Nat) : Int), s'))
          else ∃ v, loopM step (toB (jn 10 (P ++ [l])), (i : Int), s) = some (.ret v) ∧ bad v ((i + P.length : Nat) : Int) := by
  intro P
  induction P with
  | nil =>
    intro i s _ hj _ _
    simp only [rdL, List.nil_append, jn, List.length_nil, Nat.add_zero]
    by_cases h : l = []
    · subst h
      rw [if_pos rfl, loopM_step (h0 i s)]; rfl
    · rw [if_neg h]
      obtain ⟨v, hs, hb⟩ := h1 i s l h hl
      exact ⟨v, by rw [loopM_step hs]; rfl, hb⟩
  | cons x t ih =>
    intro i s hx hj hI hi
    simp only [List.length_cons] at hi
    obtain ⟨hx1, hx2⟩ := hx x (List.mem_cons_self ..)
    rw [List.cons_append, jn_line] at hj ⊢
    have hj2 : (jn 10 (t ++ [l])).length ≤ 200000 := by simp at hj; omega
    obtain ⟨f, hf1, hf2⟩ := h2 i s x _ hI hx1 hx2 hj (by omega)
    unfold rdL
    rw [loopM_step hf1]
    cases hp : F i s x with
    | none =>
      rw [hp] at hf2
      obtain ⟨v, rfl, hb⟩ := hf2
      exact ⟨v, rfl, hb⟩
    | some z =>
      rw [hp] at hf2
      subst hf2
      have := ih (i + 1) z (fun y hy => hx y (List.mem_cons_of_mem _ hy)) hj2 (hF i s x z hI hp) (by omega)
      have e1 : ((i + (x :: t).length : Nat) : Int) = ((i + 1 + t.length : Nat) : Int) := by simp only [List.length_cons]; omega
      simp only [Flow.run]
      rw [e1]
      exact this
end Go.G
