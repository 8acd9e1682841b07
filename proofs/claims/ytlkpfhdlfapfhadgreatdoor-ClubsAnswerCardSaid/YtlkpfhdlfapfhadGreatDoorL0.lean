/- L0: plain lemmas on the models' loops and words. No program in sight. -/
import Derived.Test.YtlkpfhdlfapfhadGreatDoorJB
namespace Go.G
open Go Go.J
@[simp] theorem j9 {α : Sort _} (x y : α):ifB true x y=x:=rfl
@[simp] theorem j4 {α : Sort _} (x y : α):ifB false x y=y:=rfl
theorem bh8 {α : Sort _} (p:Prop) [Decidable p] (x y : α):ifB (decide p) x y=if p then x else y:=by by_cases h:p <;> simp [h]
@[simp] theorem D5 {σ τ : Type} (s : σ) (k : σ → Option τ):(Flow.brk s:Flow σ τ).fin k=k s:=rfl
@[simp] theorem cg4 {σ τ : Type} (v : τ) (k : σ → Option τ):(Flow.ret v:Flow σ τ).fin k=some v:=rfl
@[simp] theorem C9 {σ τ : Type} (s : σ) (k : σ → Option τ):Sum.fin (.inl s) k=k s:=rfl
@[simp] theorem bN2 {σ τ : Type} (v : τ) (k : σ → Option τ):Sum.fin (.inr v) k=some v:=rfl
@[simp] theorem D8 {σ ρ β : Type} (s : σ) (n b : σ → β) (r : ρ → β):(Flow.nxt s).run n b r=n s:=rfl
@[simp] theorem ag4 {σ ρ β : Type} (s : σ) (n b : σ → β) (r : ρ → β):(Flow.brk s).run n b r=b s:=rfl
@[simp] theorem bw4 {σ ρ β : Type} (v : ρ) (n b : σ → β) (r : ρ → β):(Flow.ret v).run n b r=r v:=rfl
section
variable {α σ ρ : Type}
@[simp] theorem br7 (step:Nat → α → σ → Option (Flow σ ρ)) (i:Nat) (s : σ):l8 step i [] s=some (.brk s):=rfl
theorem o5 (step:Nat → α → σ → Option (Flow σ ρ)) (i:Nat) (x : α) (t:List α) (s : σ):l8 step i (x::t) s=(step i x s).bind fun f=>f.run (fun s'=>l8 step (i+1) t s') (fun s'=>some (.brk s')) (fun v=>some (.ret v)):=rfl
theorem Q8 (step:Nat → α → σ → Option (Flow σ ρ)) (xs:List α) (I:Nat → σ → Prop) (h:∀ i x s,xs[i]? = some x→I i s→∃ s',step i x s=some (.nxt s')∧I (i+1) s') (s : σ) (h0:I 0 s):∃ s',l8 step 0 xs s=some (.brk s')∧I xs.length s':=by
 have key:∀ (t:List α) (i:Nat) (s : σ),xs.drop i=t→I i s→∃ s',l8 step i t s=some (.brk s')∧I (i+t.length) s':=by
  intro t
  induction t with
  | nil=>intro i s _ hs; exact ⟨s,rfl,by simpa using hs⟩
  | cons x t ih =>
   intro i s hd hs
   have hx:xs[i]? = some x:=by
    have:(xs.drop i)[0]? = some x:=by rw [hd]; rfl
    simpa using this
   obtain ⟨s',h1,h2⟩:=h i x s hx hs
   have hd':xs.drop (i+1)=t:=by rw [← List.drop_drop,hd]; rfl
   obtain ⟨s'',h3,h4⟩:=ih (i+1) s' hd' h2
   exact ⟨s'',by rw [o5,h1]; simpa using h3,by simpa [Nat.add_assoc,Nat.add_comm 1] using h4⟩
 have:=key xs 0 s rfl h0
 simpa using this
theorem bB0 (step : σ → Option (Flow σ ρ)) (I : σ → Prop) (m : σ → Nat) (res : σ → Flow σ ρ)
  (h:∀ s,I s→(∃ s',step s=some (.nxt s')∧I s'∧m s'<m s∧res s=res s')∨(∃ s',step s=some (.brk s')∧res s = .brk s')∨(∃ v,step s=some (.ret v)∧res s = .ret v)):∀ s,I s→J2 step s=some (res s):=by
 have key:∀ n s,m s=n→I s→J2 step s=some (res s):=by
  intro n
  induction n using Nat.strongRecOn with
  | _ n ih =>
   intro s hn hs
   rcases h s hs with ⟨s',h1,h2,h3,h4⟩ | ⟨s',h1,h2⟩ | ⟨v,h1,h2⟩
   ·rw [o6 h1,D8,h4]; exact ih (m s') (hn ▸ h3) s' rfl h2
   ·rw [o6 h1,ag4,h2]
   ·rw [o6 h1,bw4,h2]
 exact fun s hs=>key _ s rfl hs
theorem aA6 (step : σ → Option (Flow σ ρ)) (I : σ → Prop) (m : σ → Nat) (Q:Flow σ ρ → Prop)
  (h:∀ s,I s→(∃ s',step s=some (.nxt s')∧I s'∧m s'<m s)∨(∃ s',step s=some (.brk s')∧Q (.brk s'))∨(∃ v,step s=some (.ret v)∧Q (.ret v))):∀ s,I s→∃ f,J2 step s=some f∧Q f:=by
 have key:∀ n s,m s=n→I s→∃ f,J2 step s=some f∧Q f:=by
  intro n
  induction n using Nat.strongRecOn with
  | _ n ih =>
   intro s hn hs
   rcases h s hs with ⟨s',h1,h2,h3⟩ | ⟨s',h1,h2⟩ | ⟨v,h1,h2⟩
   ·obtain ⟨f,hf,hq⟩:=ih (m s') (hn ▸ h3) s' rfl h2
    exact ⟨f,by rw [o6 h1,D8]; exact hf,hq⟩
   ·exact ⟨_,by rw [o6 h1,ag4],h2⟩
   ·exact ⟨_,by rw [o6 h1,bw4],h2⟩
 exact fun s hs=>key _ s rfl hs
end
theorem Y6 {α : Type} {xs:List α} {i:Int} {n:Nat} {x : α} (hi:i=n) (h:xs[n]? = some x):v8 xs i=some x:=by subst hi; rw [A8]; exact h
theorem Q7 {α : Type} {by_:Nat} {xs ys:List α} (h:(xs.length+ys.length)*by_≤140737488355328) (hb:0<by_):ah3 by_ xs ys=some (xs++ys):=by
 have:xs.length+ys.length≤maxLen:=by
  have h1:(xs.length+ys.length)*1≤(xs.length+ys.length)*by_:=Nat.mul_le_mul_left _ hb
  unfold maxLen; omega
 unfold ah3
 rw [if_pos ⟨h,this⟩]
theorem ax2 {n:Int} (h:n≤9223372036854775807):aE4 n=some (List.range n.toNat):=by unfold aE4; rw [if_pos h]
theorem aV3 {a b:Int} (h:b≠0):aK2 a b=some (w64 (a.tdiv b)):=by unfold aK2; rw [if_neg h]
theorem aG9 {a b:Int} (h:b≠0):aI3 a b=some (a.tmod b):=by unfold aI3; rw [if_neg h]
theorem bA0 {α : Type} {xs:List α} {lo hi:Int} {a b:Nat} (ha:lo=a) (hb:hi=b) (hab:a≤b) (hl:b≤xs.length):aE1 xs lo hi=some ((xs.drop a).take (b - a)):=by
 subst ha hb
 unfold aE1
 rw [if_pos (by omega)]
 rfl
end Go.G
