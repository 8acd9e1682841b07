/- Plain laws of the models; no condition beyond what each theorem says. -/
import Derived.Test.YtlhfimbpjdfdgacGreatDoorL0
namespace Go.G
open Go Go.J
theorem rangeM_filterMap {α β ρ : Type} (step : Nat → α → List β → Option (Flow (List β) ρ)) (f : α → Option β) (xs : List α)
  (h : ∀ i x (s : List β), xs[i]? = some x → s.length ≤ i → step i x s = some (.nxt (s ++ (f x).toList))) : rangeM step 0 xs [] = some (.brk (xs.filterMap f)) := by
 obtain ⟨s, h1, h2, -⟩ := rangeM_invx step xs (fun i s => s = (xs.take i).filterMap f ∧ s.length ≤ i) (by
  rintro i x s hx ⟨rfl, hl⟩
  refine ⟨_, h i x _ hx hl, ?_, ?_⟩
  ·rw [List.take_add_one, hx, List.filterMap_append]
   cases hf : f x <;> simp [hf]
  ·rw [List.length_append]
   cases f x <;> simp <;> omega) [] ⟨rfl, by simp⟩
 rw [h1, h2, List.take_length]
def ixL1 {α : Type} (p : α → Option Bool) (i1 : Nat) (x2 : α) (_ : Unit) : Option (Flow Unit Int) := (p x2).bind fun y8 => ifB y8 (some (.ret (i1 : Int))) (some (.nxt ()))
def ixM {α : Type} (p : α → Option Bool) (a0 : List α) : Option Int := (rangeM (ixL1 p) 0 a0 ()).bind fun f7 => Flow.fin f7 fun _ => some (-1)
theorem rangeM_stop {α σ ρ : Type} (step : Nat → α → σ → Option (Flow σ ρ)) (xs : List α) (I : Nat → σ → Prop) (Q : Flow σ ρ → Prop)
  (h : ∀ i x s, xs[i]? = some x → I i s → ∃ f, step i x s = some f ∧ (∀ s', f = .nxt s' → I (i + 1) s') ∧ (∀ s', f = .brk s' → Q (.brk s')) ∧ ∀ v, f = .ret v → Q (.ret v))
  (he : ∀ s, I xs.length s → Q (.brk s)) (s : σ) (h0 : I 0 s) : ∃ f, rangeM step 0 xs s = some f ∧ Q f := by
 have key : ∀ (t : List α) (i : Nat) (s : σ), xs.drop i = t → i + t.length = xs.length → I i s → ∃ f, rangeM step i t s = some f ∧ Q f := by
  intro t
  induction t with
  | nil => intro i s _ hl hs; exact ⟨.brk s, rfl, he s (by simpa using hl ▸ hs)⟩
  | cons x t ih =>
   intro i s hd hl hs
   have hx : xs[i]? = some x := by
    have : (xs.drop i)[0]? = some x := by rw [hd]; rfl
    simpa using this
   obtain ⟨f, h1, h2, h3, h4⟩ := h i x s hx hs
   have hd' : xs.drop (i + 1) = t := by rw [← List.drop_drop, hd]; rfl
   rw [rangeM_cons, h1]
   cases f with
   | nxt s' => exact ih (i + 1) s' hd' (by simp at hl; omega) (h2 s' rfl)
   | brk s' => exact ⟨_, rfl, h3 s' rfl⟩
   | ret v => exact ⟨_, rfl, h4 v rfl⟩
 exact key xs 0 s rfl (by simp) h0
noncomputable def dfL1 {α ρ : Type} (p : α → Option Bool) (u2 : Int × Int × List α) : Option (Flow (Int × Int × List α) ρ) :=
 ifB (decide (u2.2.1 < (u2.2.2.length : Int))) ((getI u2.2.2 u2.2.1).bind fun e6 => (p e6).bind fun y8 => ifB (!y8) ((getI u2.2.2 u2.1).bind fun _ => some (.nxt (w64 (u2.1 + 1), w64 (u2.2.1 + 1), (u2.2.2.set u2.1.toNat e6)))) (some (.nxt (u2.1, w64 (u2.2.1 + 1), u2.2.2)))) (some (.brk (u2.1, u2.2.1, u2.2.2)))
noncomputable def dfM {α : Type} (z : α) (p : α → Option Bool) (a0 : List α) : Option (List α) :=
 (ixM p a0).bind fun y1 => ifB (y1 == (-1)) (some a0) ((loopM (dfL1 p) (y1, w64 (y1 + 1), a0)).bind fun f5 => Flow.fin f5 fun u2 => (sliceI u2.2.2 u2.1 (u2.2.2.length : Int)).bind fun _ => (sliceI (clearM z u2.2.2 u2.1) 0 u2.1).bind fun q14 => some q14)
noncomputable def isL2 {α ρ : Type} (cmp : α → α → Option Int) (a1 : Int) (u5 : Int × List α) : Option (Flow (Int × List α) ρ) :=
 ifB (decide (u5.1 > a1)) ((getI u5.2 u5.1).bind fun e9 => (getI u5.2 (w64 (u5.1 - 1))).bind fun e10 => (cmp e9 e10).bind fun y11 => ifB (decide (y11 < 0)) ((getI u5.2 (w64 (u5.1 - 1))).bind fun e12 => (getI u5.2 u5.1).bind fun e13 => (getI u5.2 u5.1).bind fun _ => (getI (u5.2.set u5.1.toNat e12) (w64 (u5.1 - 1))).bind fun _ => some (.nxt (w64 (u5.1 - 1), ((u5.2.set u5.1.toNat e12).set ((w64 (u5.1 - 1)).toNat) e13)))) (some (.brk (u5.1, u5.2)))) (some (.brk (u5.1, u5.2)))
noncomputable def isL1 {α ρ : Type} (cmp : α → α → Option Int) (a1 a2 : Int) (u1 : Int × List α) : Option (Flow (Int × List α) ρ) :=
 ifB (decide (u1.1 < a2)) ((loopM (isL2 (ρ := Flow (Int × List α) ρ) cmp a1) (u1.1, u1.2)).bind fun f8 => Flow.fin f8 fun u5 => some (.nxt (w64 (u1.1 + 1), u5.2))) (some (.brk (u1.1, u1.2)))
noncomputable def isM {α : Type} (cmp : α → α → Option Int) (a0 : List α) (a1 a2 : Int) : Option (List α) :=
 (loopM (isL1 (ρ := List α) cmp a1 a2) (w64 (a1 + 1), a0)).bind fun f4 => Flow.fin f4 fun u1 => some u1.2
def Flow.mapF {σ σ' ρ ρ' : Type} (f : σ → σ') (g : ρ → ρ') : Flow σ ρ → Flow σ' ρ'
 | .nxt s => .nxt (f s)
 | .brk s => .brk (f s)
 | .ret r => .ret (g r)
end Go.G
