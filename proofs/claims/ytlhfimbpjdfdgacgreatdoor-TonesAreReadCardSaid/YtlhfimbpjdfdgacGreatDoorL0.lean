/- Plain laws of the models; no condition beyond what each theorem says. -/
import Derived.Test.YtlhfimbpjdfdgacGreatDoorJB
namespace Go.G
open Go Go.J
@[simp] theorem ifB_true {α : Sort _} (x y : α) : ifB true x y = x := rfl
@[simp] theorem ifB_false {α : Sort _} (x y : α) : ifB false x y = y := rfl
theorem ifB_ite {α : Sort _} (p : Prop) [Decidable p] (x y : α) : ifB (decide p) x y = if p then x else y := by by_cases h : p <;> simp [h]
@[simp] theorem fin_brk {σ τ : Type} (s : σ) (k : σ → Option τ) : (Flow.brk s : Flow σ τ).fin k = k s := rfl
@[simp] theorem fin_ret {σ τ : Type} (v : τ) (k : σ → Option τ) : (Flow.ret v : Flow σ τ).fin k = some v := rfl
@[simp] theorem fin_inl {σ τ : Type} (s : σ) (k : σ → Option τ) : Sum.fin (.inl s) k = k s := rfl
@[simp] theorem fin_inr {σ τ : Type} (v : τ) (k : σ → Option τ) : Sum.fin (.inr v) k = some v := rfl
@[simp] theorem run_nxt {σ ρ β : Type} (s : σ) (n b : σ → β) (r : ρ → β) : (Flow.nxt s).run n b r = n s := rfl
@[simp] theorem run_brk {σ ρ β : Type} (s : σ) (n b : σ → β) (r : ρ → β) : (Flow.brk s).run n b r = b s := rfl
@[simp] theorem run_ret {σ ρ β : Type} (v : ρ) (n b : σ → β) (r : ρ → β) : (Flow.ret v).run n b r = r v := rfl
section
variable {α σ ρ : Type}
@[simp] theorem rangeM_nil (step : Nat → α → σ → Option (Flow σ ρ)) (i : Nat) (s : σ) : rangeM step i [] s = some (.brk s) := rfl
theorem rangeM_cons (step : Nat → α → σ → Option (Flow σ ρ)) (i : Nat) (x : α) (t : List α) (s : σ) : rangeM step i (x :: t) s = (step i x s).bind fun f => f.run (fun s' => rangeM step (i + 1) t s') (fun s' => some (.brk s')) (fun v => some (.ret v)) := rfl
theorem rangeM_invx (step : Nat → α → σ → Option (Flow σ ρ)) (xs : List α) (I : Nat → σ → Prop) (h : ∀ i x s, xs[i]? = some x → I i s → ∃ s', step i x s = some (.nxt s') ∧ I (i + 1) s') (s : σ) (h0 : I 0 s) : ∃ s', rangeM step 0 xs s = some (.brk s') ∧ I xs.length s' := by
 have key : ∀ (t : List α) (i : Nat) (s : σ), xs.drop i = t → I i s → ∃ s', rangeM step i t s = some (.brk s') ∧ I (i + t.length) s' := by
  intro t
  induction t with
  | nil => intro i s _ hs; exact ⟨s, rfl, by simpa using hs⟩
  | cons x t ih =>
   intro i s hd hs
   have hx : xs[i]? = some x := by
    have : (xs.drop i)[0]? = some x := by rw [hd]; rfl
    simpa using this
   obtain ⟨s', h1, h2⟩ := h i x s hx hs
   have hd' : xs.drop (i + 1) = t := by rw [← List.drop_drop, hd]; rfl
   obtain ⟨s'', h3, h4⟩ := ih (i + 1) s' hd' h2
   exact ⟨s'', by rw [rangeM_cons, h1]; simpa using h3, by simpa [Nat.add_assoc, Nat.add_comm 1] using h4⟩
 have := key xs 0 s rfl h0
 simpa using this
theorem loopM_post (step : σ → Option (Flow σ ρ)) (I : σ → Prop) (m : σ → Nat) (Q : Flow σ ρ → Prop)
  (h : ∀ s, I s → (∃ s', step s = some (.nxt s') ∧ I s' ∧ m s' < m s) ∨ (∃ s', step s = some (.brk s') ∧ Q (.brk s')) ∨ (∃ v, step s = some (.ret v) ∧ Q (.ret v))) : ∀ s, I s → ∃ f, loopM step s = some f ∧ Q f := by
 have key : ∀ n s, m s = n → I s → ∃ f, loopM step s = some f ∧ Q f := by
  intro n
  induction n using Nat.strongRecOn with
  | _ n ih =>
   intro s hn hs
   rcases h s hs with ⟨s', h1, h2, h3⟩ | ⟨s', h1, h2⟩ | ⟨v, h1, h2⟩
   ·obtain ⟨f, hf, hq⟩ := ih (m s') (hn ▸ h3) s' rfl h2
    exact ⟨f, by rw [loopM_step h1, run_nxt]; exact hf, hq⟩
   ·exact ⟨_, by rw [loopM_step h1, run_brk], h2⟩
   ·exact ⟨_, by rw [loopM_step h1, run_ret], h2⟩
 exact fun s hs => key _ s rfl hs
end
theorem getI_of {α : Type} {xs : List α} {i : Int} {n : Nat} {x : α} (hi : i = n) (h : xs[n]? = some x) : getI xs i = some x := by subst hi; rw [getI_nat]; exact h
theorem appM_of {α : Type} {by_ : Nat} {xs ys : List α} (h : (xs.length + ys.length) * by_ ≤ 140737488355328) (hb : 0 < by_) : appM by_ xs ys = some (xs ++ ys) := by
 have : xs.length + ys.length ≤ maxLen := by
  have h1 : (xs.length + ys.length) * 1 ≤ (xs.length + ys.length) * by_ := Nat.mul_le_mul_left _ hb
  unfold maxLen; omega
 unfold appM
 rw [if_pos ⟨h, this⟩]
theorem rangeI_of {n : Int} (h : n ≤ 9223372036854775807) : rangeI n = some (List.range n.toNat) := by unfold rangeI; rw [if_pos h]
theorem quoM_of {a b : Int} (h : b ≠ 0) : quoM a b = some (w64 (a.tdiv b)) := by unfold quoM; rw [if_neg h]
theorem remM_of {a b : Int} (h : b ≠ 0) : remM a b = some (a.tmod b) := by unfold remM; rw [if_neg h]
theorem sliceI_of {α : Type} {xs : List α} {lo hi : Int} {a b : Nat} (ha : lo = a) (hb : hi = b) (hab : a ≤ b) (hl : b ≤ xs.length) : sliceI xs lo hi = some ((xs.drop a).take (b - a)) := by
 subst ha hb
 unfold sliceI
 rw [if_pos (by omega)]
 rfl
end Go.G
