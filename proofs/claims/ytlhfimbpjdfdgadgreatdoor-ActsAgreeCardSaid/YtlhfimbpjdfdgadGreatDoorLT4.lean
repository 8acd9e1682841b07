/- LT4: texts that are read line by line, by both ways. In plain Lean, no program in sight. -/
import Derived.Test.YtlhfimbpjdfdgadGreatDoorLT3
namespace Go.G
open Go Go.J
set_option linter.unusedSimpArgs false
set_option linter.unusedVariables false
theorem progLoop {σ ρ : Type} (step : Nat → ByteArray → σ → Option (Flow σ ρ)) (F : Nat → σ → BL → Option σ) (I : Nat → σ → Prop) (err : Nat → ρ) (m : Nat)
  (hF : ∀ i s x z, I i s → F i s x = some z → I (i + 1) z)
  (hst : ∀ i s x, I i s → x.length ≤ 200000 → i + 1 ≤ m → step i (toB x) s = some (match F i s x with | some z => .nxt z | none => .ret (err i))) (Q : List ByteArray) :
  ∀ (P : List BL) (i : Nat) (s : σ), (∀ x ∈ P, x.length ≤ 200000) → I i s → i + P.length ≤ m →
   rangeM step i (P.map toB ++ Q) s = match rdL F i P s with
    | .inl k => some (.ret (err k))
    | .inr s' => rangeM step (i + P.length) Q s' := by
 intro P
 induction P with
 | nil => intro i s _ _ _; rfl
 | cons x t ih =>
  intro i s hx hI hm
  simp only [List.length_cons] at hm
  rw [List.map_cons, List.cons_append, rangeM_cons, hst i s x hI (hx x (List.mem_cons_self ..)) (by omega)]
  unfold rdL
  cases hp : F i s x with
  | none => rfl
  | some z =>
   simp only [Option.bind_some, run_nxt]
   rw [ih (i + 1) z (fun y hy => hx y (List.mem_cons_of_mem _ hy)) (hF i s x z hI hp) (by omega), List.length_cons, show i + 1 + t.length = i + (t.length + 1) by omega]
theorem rdL_inv {σ : Type} (F : Nat → σ → BL → Option σ) (I : Nat → σ → Prop) (hF : ∀ i s x z, I i s → F i s x = some z → I (i + 1) z) : ∀ (P : List BL) (i : Nat) (s v : σ), I i s → rdL F i P s = .inr v → I (i + P.length) v := by
 intro P
 induction P with
 | nil => intro i s v hI h; simp [rdL] at h; rw [← h]; exact hI
 | cons x t ih =>
  intro i s v hI h
  unfold rdL at h
  cases hp : F i s x with
  | none => rw [hp] at h; cases h
  | some z =>
   rw [hp] at h
   have := ih (i + 1) z v (hF i s x z hI hp) h
   rw [List.length_cons, show i + (t.length + 1) = i + 1 + t.length by omega]; exact this
end Go.G
